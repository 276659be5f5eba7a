/- law15. -/
import Derived.Test.YtfomomaomggpbaaGreatDoorBgAlive
import Derived.Test.YtfomomaomggpbaaGreatDoorJgBgPlc
import Derived.Test.YtfomomaomggpbaaGreatDoorJnPb
import Derived.Test.YtfomomaomggpbaaGreatDoorJnCq
set_option linter.all false
namespace Go.Proofs.YtfomomaomggpbaaGreatDoor
open Go.RowKit Go.Shelf Go.Maps
theorem ziI (h:Option Ho):(hoD (h.map Ho.bare)).kind =(hoD h).kind /\(hoD (h.map Ho.bare)).wrong =(hoD h).wrong :=by
 cases h<;>exact⟨rfl,rfl⟩
def BarQ (E:Int)(h:Option Ho)(u:Bs)(mv ma mp mm_ ns cs:Nat)(As:Option Addr)(steps:Int)(W:World)(e:Ending)(w':World):Prop:=
 ∃Bv Ba Bp Bm dv da dp dm,e= .returned (.agg #[.slice Bv mv dv,.slice Ba ma da,.slice Bp mp dp,.slice Bm mm_ dm])/\Fr NoT W w'/\Calls Tryz.prog 9 #[.agg #[.slice Bv mv dv,.slice Ba ma da,.slice Bp mp dp,.slice Bm mm_ dm],.slice As ns cs,.int .i64 steps] w' (BigU E h u w')
set_option maxRecDepth 100000 in
set_option maxHeartbeats 6400000 in
theorem zhW (t:Tre)(script:List Int)(steps:Int)(w:World)(S:Nat->Prop)(Z:Prop)(Av Aa Ap Am As:Option Addr)(cv ca cp cm cs:Nat)(he:NameEnv w)(hS:∀b,S b->b < w.heap.size)(Hx:SzT t)(hx:TrR w S Z t Av Aa Ap Am cv ca cp cm)(S8:t.main.len*128<=140737488351232)(KS:IsSl w w.heap.size script As cs)(Kg:in64 steps):
  Calls Tryz.prog 6 #[trV t Av Aa Ap Am cv ca cp cm,.slice As script.length cs,.int .i64 steps] w (TrueB w):=by
 have zo:=aK KS.1 KS.2.1;replace hx:=hx.lax;have hX:=λ(W:World)(hf:Fr NoT w W)=>hx.keep (hf.same λb hb=>⟨hS b hb,id⟩);have K7:=λ(W:World)(hf:Fr NoT w W) b (hb:S b)=>aM (hS b hb) hf.size;have YC:=λ(W:World)(hf:Fr NoT w W)=>(KS.keep (Same.of_fr hf (aL _) λ_ h=>h.elim)).up hf.size;have jg:∀W,Fr NoT w W->Calls Tryz.prog 8 #[.agg #[.slice Av t.vars.length cv,.slice Aa t.arrays.length ca,.slice Ap t.procs.length cp,.slice Am t.main.len cm]] W (AnyB W):=λW hf=>zjO t W S False Av Aa Ap Am cv ca cp cm (K7 W hf) (hX W hf);have GL:steps<=2000->∃h u h' u',(bigE t script.length steps=0->h'=h/\u'=u)/\(∀W,Fr NoT w W->Calls Tryz.prog 9 #[.agg #[.slice Av t.vars.length cv,.slice Aa t.arrays.length ca,.slice Ap t.procs.length cp,.slice Am t.main.len cm],.slice As script.length cs,.int .i64 steps] W (BigU (bigE t script.length steps) h u W))/\
   (∀W,Fr NoT w W->Calls Tryz.prog 16 #[.agg #[.slice Av t.vars.length cv,.slice Aa t.arrays.length ca,.slice Ap t.procs.length cp,.slice Am t.main.len cm]] W (BarQ (bigE t script.length steps) (h.map Ho.bare) u t.bare.vars.length t.bare.arrays.length t.bare.procs.length t.bare.main.len script.length cs As steps W))/\
   (∀W A c (T:Nat->Prop),Fr NoT w W->(∀b,S b->T b)->(∀b,T b->b < W.heap.size)->SlR (StR W T False (skS t.main)) (skS t.main).len 128 A c->Calls Tryz.prog 9 #[.agg #[.slice Av t.vars.length cv,.slice Aa t.arrays.length ca,.slice Ap t.procs.length cp,.slice A (skS t.main).len c],.slice As script.length cs,.int .i64 (steps+1)] W (BigU (bigE t.skip script.length (steps+1)) h' u' W)):=by
  intro GH;obtain⟨h,u,h',u',h1,h2,h3,h4⟩:=zqn Hx script GH;refine⟨h,u,h',u',h4,λW hf=>zpx t script steps h u W S False Av Aa Ap Am As cv ca cp cm cs (he.keep hf.plain).toSp (K7 W hf) Hx (hX W hf) (YC W hf) Kg h1,λW hf=>?_,λW A c T hf PK hT Gq=>?_⟩
  ·refine(zl7 t W S False Av Aa Ap Am cv ca cp cm (K7 W hf) (hX W hf)).mono ?_;rintro _ w' ⟨Bv,Ba,Bp,Bm,dv,da,dp,dm,rfl,hT,J8⟩;have JD:=hf.trans J8;refine⟨Bv,Ba,Bp,Bm,dv,da,dp,dm,rfl,J8,?_⟩;have:=zpx t.bare script steps (h.map Ho.bare) u w' _ True Bv Ba Bp Bm As dv da dp dm cs (he.keep JD.plain).toSp (λb hb=>hb.2) (szbT Hx) hT (YC w' JD) Kg h2;rw[zhf]at this;exact this
  ·have ht:TrR W T False t.skip Av Aa Ap A cv ca cp c:=⟨(TrR.more PK (hX W hf)).vars,(TrR.more PK (hX W hf)).arrays,(TrR.more PK (hX W hf)).procs,Gq⟩;exact zpx t.skip script (steps+1) h' u' W T False Av Aa Ap A As cv ca cp c cs (he.keep hf.plain).toSp hT (zl0 Hx) ht (YC W hf) (by unfold in64 at Kg ⊢;omega) h3
 obtain⟨mcs,YD,F9,Jn⟩:=zjL hx.main;have jh:Am=none->t.main.len=0:=λe=>by
  rcases Nat.eq_zero_or_pos t.main.len with h|h
  ·exact h
  ·obtain⟨b,o,e2,_⟩:=hx.main.2.2 h;rw[e]at e2;cases e2
 have Xz:=aA (λ(W:World)(hf:Fr NoT w W) ad (ha:Am=some ad) j u (hj:mcs[j]?=some u)=>(show W.cell? (ad.add j)=some u from by
  have hp:0 < t.main.len:=by have:=(List.getElem?_eq_some_iff.1 hj).1;omega
  obtain⟨b,o,e2,hh⟩:=hx.main.2.2 hp;have hb:=F9 ad ha j u hj;have zq:S b:=by
   cases KN:t.main with
   |nil=>rw[KN]at hp;simp[Sts.len]at hp
   |cons=>rw[KN]at hh;exact hh.1.1
  have:ad=⟨b,o,none⟩:=Option.some.inj (ha.symm.trans e2);subst this;have h4:(⟨b,o,none⟩:Addr).add j=⟨b,o+j,none⟩:=by unfold Addr.add;split<;>simp_all
  rw[h4]at hb ⊢;exact(hf.cell (p:=⟨b,o+j,none⟩) (hS b zq) id).trans hb))
 have FP:=aA (λ(W W':World)(T:Nat->Prop)(L:Nat)(v:Value)(hf:Fr NoT w W)(hs:SameS S W W')(PK:∀b,S b->T b)(hT:∀g,L<=g->g < W'.heap.size->T g)(Hi:W'.ownsRow L 51 7 v (1+t.main.len) (skipC++mcs))=>znH hs PK hT (hX W hf).main YD (λad ha j u hj=>Xz W hf ad ha j u hj) (by omega) Hi);have T3:=aA (λ(h0:0<=steps/\steps<=2000)=>zl2 (t:=t) (n:=script.length) h0);have qj:=aA (show bigE t script.length steps=0->0<=steps from λh=>(zfA h).2.1);have HS:=aA hS;have Xo:=aA (λ(W:World)(hf:Fr NoT w W)=>he.keep hf.plain);clear hx hX K7 YC F9 Hx he KS hS;unfold trV;obtain⟨nv,Nj⟩:=aF t.vars.length;obtain⟨na,Pc⟩:=aF t.arrays.length;obtain⟨np,M1⟩:=aF t.procs.length;obtain⟨nm,Jt⟩:=aF t.main.len;obtain⟨ns,NX⟩:=aF script.length;obtain⟨mv,qk⟩:=aF t.bare.vars.length;obtain⟨ma,ql⟩:=aF t.bare.arrays.length;obtain⟨mp,RG⟩:=aF t.bare.procs.length;obtain⟨mm_,KN⟩:=aF t.bare.main.len;obtain⟨nk,PH⟩:=aF ((skS t.main).len );rw[<-Nj,<-Pc,<-M1,<-Jt,<-NX,<-qk,<-ql,<-RG,<-KN,<-PH]at GL;rw[<-Nj,<-Pc,<-M1,<-Jt]at jg;rw[<-NX]at zo T3 qj;rw[<-Jt]at YD jh S8;rw[<-Jt,<-PH]at FP;rw[<-Nj,<-Pc,<-M1,<-Jt,<-NX];obtain⟨w1,Hc⟩:=aF (w.alloc (.cells #[.slice Av nv cv,.slice Aa na ca,.slice Ap np cp,.slice Am nm cm] 27));have Hd:Fr NoT w w1:=by rw[Hc];exact aH.alloc _
 have Fo:Bk w1 w.heap.size 27 #[.slice Av nv cv,.slice Aa na ca,.slice Ap np cp,.slice Am nm cm]:=by rw[Hc];exact Bk.new _ _ _
 have V8:=aA (zjJ w1 (Xo w1 Hd));have zr:=aA jg;have P8:=aA GL;have Ge:=aA Hc;have Hl:=aA Hd;have K0:=aA Fo;have XP:=aA (aG YD (aG jh (aG S8 Jn)));have zt:=aA Kg;obtain⟨i0,hi,Fg,Hw,G5⟩:=info_parts zkp;have HI:=aA (aG hi (aG Fg (aG Hw G5)));clear hi Fg Hw G5;clear jg GL Nj Pc M1 Jt NX qk ql RG KN PH Hc Hd Fo YD jh S8 Jn Kg;go_enter Tryz.func6,Tryz.ntmps6;go_wp2_with fail;rw[<-Ge.out];refine V8.mono ?_;rintro _ w2 ⟨rfl,UW⟩;have Hu:=aA (Hl.trans UW);have JE:=aA (K0.fr0 UW);clear UW;have xC:=JE.cell 0;have xD:=JE.cell 1;have xE:=JE.cell 2;have xF:=JE.cell 3;have gl:=JE.lt;simp only[aD]at xC xD xE xF;go_wp2_with fail;go_at_call 8;refine(zr w2 Hu.out).mono ?_;rintro _ w3 ⟨b,rfl,UX⟩;have Gi:=aA (Hu.trans UX);have Ly:=aA (JE.fr0 UX);clear UX xC xD xE xF gl;rcases(show b=true\/(b=false/\(10000:Int) < (ns:Int))\/(b=false/\¬(10000:Int) < (ns:Int)/\2000 < steps)\/(b=false/\¬(10000:Int) < (ns:Int)/\¬2000 < steps)from by cases b<;>simp<;>omega)with rfl|⟨rfl,g1⟩|⟨rfl,g1,g2⟩|⟨rfl,g1,g2⟩
 ·
  go_wp2_with fail;go_ret;exact⟨rfl,Gi.out⟩
 ·
  go_wp2_with fail;go_ret;exact⟨rfl,Gi.out⟩
 ·
  go_wp2_with fail;go_ret;exact⟨rfl,Gi.out⟩
 ·
  obtain⟨h,u,h',u',hrel,Jg,GT,JA⟩:=P8 (by omega);have XQ:wrap64 (steps+1)=steps+1:=by have:=zt.out;unfold in64 at this;unfold wrap64;omega
  have L0:=aA (Jg w3 Gi.out);have GF:=aA GT;have Fe:=aA JA;have YE:=T3.out;have Rs:=qj.out;obtain⟨E,hE⟩:=aF (bigE t ns steps);obtain⟨E',qm⟩:=aF (bigE t.skip ns (steps+1));rw[<-hE]at hrel L0 GF YE Rs;rw[<-qm]at Fe YE;have SG:=aA (aG hrel (aG YE Rs));have ji:=aA XQ;clear Jg GT JA hrel XQ YE Rs hE qm;have xC:=Ly.cell 0;have xD:=Ly.cell 1;have xE:=Ly.cell 2;have xF:=Ly.cell 3;have gl:=Ly.lt;simp only[aD]at xC xD xE xF;go_wp2_with fail;go_at_call 9;refine L0.mono ?_;rintro _ w4 ⟨HJ,k0,k1,k2,k5,kA,kn,kd,kB,km,kc,rfl,hk,kI⟩;obtain⟨w5,Jd⟩:=aF (w4.alloc (.cells #[.int .u8 k0,.int .u8 k1,.int .i64 k2,.int .i64 0,.int .i64 0,.int .i64 k5,.slice kA kn kd,.slice kB km kc] 34));have Hm:Fr NoT w4 w5:=by rw[Jd];exact aH.alloc _
  have JL:Bk w5 w4.heap.size 34 #[.int .u8 k0,.int .u8 k1,.int .i64 k2,.int .i64 0,.int .i64 0,.int .i64 k5,.slice kA kn kd,.slice kB km kc]:=by rw[Jd];exact Bk.new _ _ _
  have WB:w5.heap.size=w4.heap.size+1:=by rw[Jd];simp
  have LO:=aA (Ly.fr0 HJ);have JF:=aA ((Ly.fr0 HJ).fr0 Hm);have GG:=aA (Gi.trans HJ);have Gk:=aA ((Gi.trans HJ).trans Hm);have Mm:=aA Hm;have X8:=aA Jd;have zu:=aA JL;have zv:=aA WB;have U9:=aA hk;clear HJ Jd Hm JL WB hk kI xC xD xE xF gl;have uh:=LO.cell 0;have ui:=LO.cell 1;have uj:=LO.cell 2;have uk:=LO.cell 3;have jl:=LO.lt;simp only[aD]at uh ui uj uk;have xC:=JF.cell 0;have xD:=JF.cell 1;have xE:=JF.cell 2;have xF:=JF.cell 3;have gl:=JF.lt;simp only[aD]at xC xD xE xF;go_wp2_with fail;rw[<-X8.out];clear uh ui uj uk jl;go_at_call 16;refine(GF w5 Gk.out).mono ?_;rintro _ w6 ⟨Bv,Ba,Bp,Bm,dv,da,dp,dm,rfl,GA,To⟩;have zw:=aA To;have G1:=aA GA;clear To GA xC xD xE xF gl;go_wp2_with fail;go_at_call 9;refine zw.mono ?_;rintro _ w7 ⟨Hs,m0,m1,m2,m5,mA,mn,md,mB,mm,mc,rfl,hm,zx⟩;obtain⟨w8,G3⟩:=aF (w7.alloc (.cells #[.int .u8 m0,.int .u8 m1,.int .i64 m2,.int .i64 0,.int .i64 0,.int .i64 m5,.slice mA mn md,.slice mB mm mc] 34));have GQ:Fr NoT w7 w8:=by rw[G3];exact aH.alloc _
  have N0:Bk w8 w7.heap.size 34 #[.int .u8 m0,.int .u8 m1,.int .i64 m2,.int .i64 0,.int .i64 0,.int .i64 m5,.slice mA mn md,.slice mB mm mc]:=by rw[G3];exact Bk.new _ _ _
  have TS:w8.heap.size=w7.heap.size+1:=by rw[G3];simp
  obtain⟨w9,KJ⟩:=aF (w8.alloc (.cells #[.slice Av nv cv,.slice Aa na ca,.slice Ap np cp,.slice Am nm cm] 27));have Gl:Fr NoT w8 w9:=by rw[KJ];exact aH.alloc _
  have Pk:Bk w9 w8.heap.size 27 #[.slice Av nv cv,.slice Aa na ca,.slice Ap np cp,.slice Am nm cm]:=by rw[KJ];exact Bk.new _ _ _
  have qn:w9.heap.size=w8.heap.size+1:=by rw[KJ];simp
  have q9:w9.heap.size=w7.heap.size+1+1:=by rw[qn,TS]
  obtain⟨wa,Kx⟩:=aF (w9.alloc (.cells #[.int .u8 1,.string ⟨#[]⟩,.slice none 0 0,.slice none 0 0,.slice none 0 0,.slice none 0 0,.int .i64 0] 51));have FU:Fr NoT w9 wa:=by rw[Kx];exact aH.alloc _
  have Nk:Bk wa (w7.heap.size+1+1) 51 #[.int .u8 1,.string ⟨#[]⟩,.slice none 0 0,.slice none 0 0,.slice none 0 0,.slice none 0 0,.int .i64 0]:=by rw[<-q9,Kx];exact Bk.new _ _ _
  have qo:wa.heap.size=w7.heap.size+1+1+1:=by rw[Kx];simp[q9]
  have Ha:wa.ownsRow (w7.heap.size+1+1) 51 7 (.slice (some ⟨w7.heap.size+1+1,0,none⟩) 1 1) 1 skipC:=⟨rfl,.inr ⟨_,1,_,rfl,aL _,Nk,aL _,by decide,rfl,rfl⟩⟩;have SH:Fr NoT w4 w7:=(Mm.trans G1.out).trans Hs;have Rt:Fr NoT w7 wa:=(GQ.trans Gl).trans FU;have KO:=JF.fr0 (G1.trans Hs);have qp:w.heap.size < w7.heap.size:=KO.lt;have UO:=aA KO;have ga:=aA G3;have zy:=aA KJ;have zz:=aA Kx;have zA:=aA (show Bk wa (w7.heap.size+1) 27 #[.slice Av nv cv,.slice Aa na ca,.slice Ap np cp,.slice Am nm cm]from by rw[<-TS];exact Pk.fr0 FU);have zB:=aA (zu.fr0 (((G1.trans Hs).trans Rt)));have zC:=aA (N0.fr0 (Gl.trans FU));have HZ:=aA (aG qo (aG qp (show w4.heap.size < w7.heap.size by have:=G1.size;have:=Hs.size;have:=zv.out;omega)));have KH:=aA Ha;have zD:=aA (SH.trans Rt);have jj:=aA Rt;have XR:=aA SH;have jk:=aA ((GG.trans SH).trans Rt);have Yy:=aA hm;have D7:w.heap.size < w7.heap.size+1:=by omega
  have D8:w.heap.size < w7.heap.size+2:=by omega
  have D9:w.heap.size < w7.heap.size+1+1:=by omega
  clear Hs G3 GQ N0 TS KJ Gl Pk qn Kx FU Nk hm zx qo Ha SH Rt KO qp q9;have uh:=UO.cell 0;have ui:=UO.cell 1;have uj:=UO.cell 2;have uk:=UO.cell 3;have jl:=UO.lt;simp only[aD]at uh ui uj uk;go_wp2_with (at_builtin;rw[<-ga.out,<-zy.out,<-zz.out];refine zdx _ rfl _ _ 25 rfl (w7.heap.size+1+1) 51 i0 (.agg zeroSt) 7 128 Tryz.underlying25 HI.1 HI.2.1 HI.2.2.1 HI.2.2.2 rfl (by decide) _ 1 skipC rfl KH.out Am nm cm mcs rfl XP.2.1 XP.1 (λad ha j u hj=>Xz wa jk.out ad ha j u hj) XP.2.2.2 (by have:=XP.2.2.1;unfold maxLen;omega) (by have:=XP.2.2.1;omega) (by have:=HZ.1;omega) ?_);intro v' wb Hi Hf GN;have Ld:Fr (λb=>b=w7.heap.size+1+1) wa wb:=Fr.grown Hf λg e _=>by
   have e:some (w7.heap.size+1+1)=some g:=e;exact(Option.some.inj e).symm
  have qq:=Ld.size;have qr:=HZ.out;have VH:=HS.out;obtain⟨T,hT⟩:∃T:Nat->Prop,T=λb=>S b\/(w7.heap.size+1+1<=b/\b < wb.heap.size):=⟨_,rfl⟩;obtain⟨A',c',rfl,Gq⟩:=FP wa wb T (w7.heap.size+1+1) v' jk.out (Ld.same λb hb=>⟨by have:=VH b hb;omega,λe=>by have e:b=w7.heap.size+1+1:=e;have:=VH b hb;omega⟩) (λb hb=>by rw[hT];exact .inl hb) (λg h1 h2=>by rw[hT];exact .inr ⟨h1,h2⟩) Hi;obtain⟨wc,Tj⟩:=aF (wb.setCell ⟨w7.heap.size+1,3,none⟩ (.slice A' nk c'));have Rx:Fr (λb=>b=w7.heap.size+1) wb wc:=by rw[Tj];exact aJ aH
  have YF:wc.heap.size=wb.heap.size:=by rw[Tj];simp
  have jm:=zA.fr Ld (λe=>by have e:w7.heap.size+1=w7.heap.size+1+1:=e;omega);have XS:Bk wc (w7.heap.size+1) 27 #[.slice Av nv cv,.slice Aa na ca,.slice Ap np cp,.slice A' nk c']:=by
   have:=jm.set_ 3 (.slice A' nk c');rw[Tj];simpa using this
  have G9:Fr (λb=>w7.heap.size+1<=b) wa wc:=(Ld.mono λb _ e=>by have e:b=w7.heap.size+1+1:=e;show w7.heap.size+1<=b;omega).trans (Rx.mono λb _ e=>by have e:b=w7.heap.size+1:=e;show w7.heap.size+1<=b;omega);have UY:Fr NoT w wc:=zlZ jk.out G9 λi hi e=>by have e:w7.heap.size+1<=i:=e;omega
  have JA:=Fe wc A' c' T UY (λb hb=>by rw[hT];exact .inl hb) (λb hb=>by
   rw[hT]at hb;rcases hb with hb|hb
   ·have:=VH b hb;omega
   ·omega) (Gq.imp λ_ _=>StR.keep (Rx.same λb hb=>by
   rw[hT]at hb;rcases hb with hb|hb
   ·exact⟨by have:=VH b hb;omega,λe=>by have e:b=w7.heap.size+1:=e;have:=VH b hb;omega⟩
   ·exact⟨hb.2,λe=>by have e:b=w7.heap.size+1:=e;omega⟩))
  have XT:=aA JA;have zE:=aA Tj;have VI:=aA jm;have Ru:=aA XS;have qt:=aA (zB.fr G9 λe=>by have e:w7.heap.size+1<=w4.heap.size:=e;omega);have XU:=aA (zC.fr G9 λe=>by have e:w7.heap.size+1<=w7.heap.size:=e;omega);have zF:=aA G9;have jn:=aA UY;have zG:=aA (aG qq YF);clear Hi Hf GN Ld Gq Tj Rx jm XS G9 JA UY qq YF VH hT uh ui uj uk jl D7 D8 D9;try simp only[aB]
  have Ea:=VI.frozen 3;have Dx:=VI.cell 0;have Dy:=VI.cell 1;have Dz:=VI.cell 2;have DA:=VI.cell 3;have fl:=VI.lt;simp only[aD]at Dx Dy Dz DA;have xC:=Ru.cell 0;have xD:=Ru.cell 1;have xE:=Ru.cell 2;have xF:=Ru.cell 3;have gl:=Ru.lt;simp only[aD]at xC xD xE xF;have UZ:wb.setCell ⟨w7.heap.size+1,3,none⟩ (.slice A' nk c')=wc:=zE.symm;go_wp2_with fail;rw[ji.out];refine XT.mono ?_;clear Ea Dx Dy Dz DA fl xC xD xE xF gl UZ;rintro _ wd ⟨JH,p0,p1,p2,p5,pA,pn,pd,pB,pm,pc,rfl,hp,Yi⟩;obtain⟨we,YG⟩:=aF (wd.alloc (.cells #[.int .u8 p0,.int .u8 p1,.int .i64 p2,.int .i64 0,.int .i64 0,.int .i64 p5,.slice pA pn pd,.slice pB pm pc] 34));have XV:Fr NoT wd we:=by rw[YG];exact aH.alloc _
  have qu:Bk we wd.heap.size 34 #[.int .u8 p0,.int .u8 p1,.int .i64 p2,.int .i64 0,.int .i64 0,.int .i64 p5,.slice pA pn pd,.slice pB pm pc]:=by rw[YG];exact Bk.new _ _ _
  have SI:=aA (qt.fr0 JH);have P5:=aA (XU.fr0 JH);have zH:=aA ((qt.fr0 JH).fr0 XV);have zI:=aA ((XU.fr0 JH).fr0 XV);have zJ:=aA qu;have YH:=aA YG;have zK:=aA JH;have qv:=aA XV;have SJ:=aA ((jn.trans JH).trans XV);have XD:=aA hp;have Yo:w7.heap.size < wd.heap.size:=P5.lt;have qw:=aA Yo;clear YG JH XV qu hp Yi Yo;by_cases Rr:E=0
  ·
   have Gu:=SG.2.2 Rr;have Rs:E'=E:=SG.2.1 ⟨Gu,by omega⟩;obtain⟨q0,q1,q2,q5,q6,q7,q8,V,Ev,rfl,GV⟩:=U9 Rr;obtain⟨r0,r1,r2,r5,r6,r7,r8,V',Ew,rfl,GH⟩:=Yy Rr;obtain⟨t0,t1,t2,t5,t6,t7,t8,V'',Ey,rfl,KT⟩:=XD (Rs.trans Rr);obtain⟨rfl,rfl⟩:=SG.1 Rr;obtain⟨wf,Pe⟩:=aF (we.setCell ⟨w7.heap.size,2,none⟩ (.int .i64 k2));have JD:Fr (λi=>i=w7.heap.size) we wf:=by rw[Pe];exact aJ aH
   have qr:=HZ.out;have YF:=zG.out;have Vr:=XR.size;have jo:=aA (show(wd.setCell ⟨w7.heap.size,2,none⟩ (.int .i64 k2)).alloc (.cells #[.int .u8 p0,.int .u8 p1,.int .i64 p2,.int .i64 0,.int .i64 0,.int .i64 p5,.slice (some ⟨V'',0,none⟩) pn pd,.slice pB pm pc] 34)=we.setCell ⟨w7.heap.size,2,none⟩ (.int .i64 k2) by
    rw[YH.out];exact(World.setCell_alloc_past _ _ _ _ P5.lt).symm)
   have GX:Fr (λb=>w7.heap.size<=b) w7 wf:=(((jj.any.trans (zF.mono λb _ e=>by have e:w7.heap.size+1<=b:=e;show w7.heap.size<=b;omega)).trans zK.any).trans qv.any).trans (JD.mono λb _ e=>by have e:b=w7.heap.size:=e;show w7.heap.size<=b;omega);have XW:=zc6 GV ((XR.any).trans GX) (λb e=> .inr (by have e:w7.heap.size<=b:=e;omega));have XX:=zc6 GH GX (λb e=> .inr e);have XY:=zc6 KT (qv.any.trans JD) (λb e=> .inl (by have e:b=w7.heap.size:=e;omega));have V5:EndIs wf (enB h' u') (.agg #[.int .u8 k0,.int .u8 k1,.int .i64 k2,.int .i64 0,.int .i64 0,.int .i64 k5,.slice (some ⟨V,0,none⟩) kn kd,.slice kB km kc]):=zhS q0 q1 q2 q5 q6 q7 q8 XW;have Yj:EndIs wf (enB h' u') (.agg #[.int .u8 m0,.int .u8 m1,.int .i64 k2,.int .i64 0,.int .i64 0,.int .i64 m5,.slice (some ⟨V',0,none⟩) mn md,.slice mB mm mc]):=zhS (r0.trans (ziI h').1) (r1.trans (ziI h').2) q2 r5 r6 r7 r8 XX;have qz:EndIs wf (enB h' u') (.agg #[.int .u8 p0,.int .u8 p1,.int .i64 p2,.int .i64 0,.int .i64 0,.int .i64 p5,.slice (some ⟨V'',0,none⟩) pn pd,.slice pB pm pc]):=zhS t0 t1 t2 t5 t6 t7 t8 XY;have GZ:=zhe V5 Yj;rw[zhd]at GZ;have XZ:=aA GZ;have zL:=aA V5;have zM:=aA qz;have zN:=aA Pe;have X2:Fr NoT w wf:=zlZ SJ.out JD λi hi e=>by have e:i=w7.heap.size:=e;omega
   have jp:=aA X2;have zO:=aA (zH.fr JD λe=>by have e:w4.heap.size=w7.heap.size:=e;omega);have zP:=aA (zJ.fr JD λe=>by have e:wd.heap.size=w7.heap.size:=e;have:=qw.out;omega);have xg:Hid (Bk wf w7.heap.size 34 #[.int .u8 m0,.int .u8 m1,.int .i64 k2,.int .i64 0,.int .i64 0,.int .i64 m5,.slice (some ⟨V',0,none⟩) mn md,.slice mB mm mc]):=by
    have:=zI.set_ 2 (.int .i64 k2);rw[Pe];exact aA (by simpa using this)
   subst Rs Rr;clear Gu q0 q1 q2 q5 q6 q7 q8 r0 r1 r2 r5 r6 r7 r8 t0 t1 t2 t5 t6 t7 t8 GV GH KT XW XX XY V5 Yj qz GZ Pe JD GX qr YF Vr X2;have Eb:=P5.frozen 2;have jq:=qw.out;have ul:=SI.cell 0;have um:=SI.cell 1;have un:=SI.cell 2;have uo:=SI.cell 3;have uq:=SI.cell 4;have ur:=SI.cell 5;have us:=SI.cell 6;have ut:=SI.cell 7;have kkl:=SI.lt;simp only[aD]at ul um un uo uq ur us ut;have uu:=P5.cell 0;have uv:=P5.cell 1;have uw:=P5.cell 2;have ux:=P5.cell 3;have uy:=P5.cell 4;have uz:=P5.cell 5;have uA:=P5.cell 6;have uB:=P5.cell 7;have mml:=P5.lt;simp only[aD]at uu uv uw ux uy uz uA uB;go_wp2_with fail;rw[jo.out,<-zN.out];clear Eb jq ul uu um uv un uw uo ux uq uy ur uz us uA ut uB kkl mml;refine XZ.mono ?_;rintro _ wg ⟨rfl,Po⟩;have VJ:Fr NoT wf wg:=Fr.below Po;have NW:=zhe (zL.keep VJ) (zM.keep VJ);rw[zhd]at NW;have U0:=aA NW;have SK:=aA (zO.fr0 VJ);have SL:=aA (zP.fr0 VJ);have jr:=aA (jp.trans VJ);clear Po VJ NW;have uS:=SK.cell 0;have uT:=SK.cell 1;have uU:=SK.cell 2;have uV:=SK.cell 3;have uW:=SK.cell 4;have uX:=SK.cell 5;have uY:=SK.cell 6;have uZ:=SK.cell 7;have kgl:=SK.lt;simp only[aD]at uS uT uU uV uW uX uY uZ;have u9:=SL.cell 0;have Da:=SL.cell 1;have Db:=SL.cell 2;have Dc:=SL.cell 3;have Dd:=SL.cell 4;have De:=SL.cell 5;have Df:=SL.cell 6;have Dg:=SL.cell 7;have pgl:=SL.lt;simp only[aD]at u9 Da Db Dc Dd De Df Dg;go_wp2_with fail;go_at_call 15;refine U0.mono ?_;rintro _ wh ⟨rfl,qA⟩;have zQ:=aA qA;clear qA;go_wp2_with fail;go_ret
   exact⟨rfl,jr.trans (Fr.below zQ.out)⟩
  ·
   have z1:(E != 0)=true:=by simpa using Rr
   have z2:(E != E)=false:=by simp
   by_cases Gu:0<=steps
   ·
    have Rs:E'=E:=SG.2.1 ⟨Gu,by omega⟩;subst Rs;go_wp2_with fail;rw[<-YH.out];go_ret;exact⟨rfl,SJ.out⟩
   ·
    by_cases Rs:E=E'
    ·
     subst Rs;go_wp2_with fail;rw[<-YH.out];go_ret;exact⟨rfl,SJ.out⟩
    ·
     have z3:(E != E')=true:=by simpa using Rs
     go_wp2_with fail;rw[<-YH.out];go_ret;exact⟨rfl,SJ.out⟩
theorem zhX (t:Tre)(w:World)(S:Nat->Prop)(Z:Prop)(Av Aa Ap Am:Option Addr)(cv ca cp cm:Nat)(script:List Int)(As:Option Addr)(cs:Nat)(steps:Int)(he:NameEnv w)(hS:∀b,S b->b < w.heap.size)(Hx:SzT t)(hx:TrR w S Z t Av Aa Ap Am cv ca cp cm)(S8:BdT t)(KS:IsSl w w.heap.size script As cs)(_:As=none->cs=0)(Kg:in64 steps):
  Calls Tryz.prog 6 #[trV t Av Aa Ap Am cv ca cp cm,.slice As script.length cs,.int .i64 steps] w (zql w):=(zhW t script steps w S Z Av Aa Ap Am As cv ca cp cm cs he hS Hx hx S8.main KS Kg).mono λ_ _ h=>h.plain
