/- ref13.Graph, whole. -/
import Derived.Test.YtmopichdofgndaaGreatDoorJgRfStm
import Derived.Test.YtmopichdofgndaaGreatDoorR2Top
set_option linter.all false
namespace Go.Proofs.YtmopichdofgndaaGreatDoor
open Go.RowKit Go.Shelf Go.Maps
def RgS9 (M g eb:Nat)(eo:Nat)(sl sa:Value)(n:Int)(W:World):Prop:=M < W.heap.size/\W.cell? ⟨M,5,none⟩=some sl/\W.cell? ⟨g,1,none⟩=some sa/\W.cell? ⟨eb,eo,none⟩=some (.int .i64 n)
structure RgI (M:Nat)(cs:Value->Array Value)(arrays:List Arr)(w5 wr:World)(k:Nat)(sl:Value):Prop where
 bk:Bk wr M 137 (cs sl)
 row:wr.ownsRow (M+1) 3 1 sl k ((arrays.take k).map λa=>Value.int .i64 a.size)
 fr:Fr (λi=>i=M\/w5.heap.size<=i) w5 wr
 hi:∀g,sl.ownBlock=some g->w5.heap.size<=g
set_option maxRecDepth 100000 in
set_option maxHeartbeats 6400000 in
theorem zkx (t:Tre)(w:World)(Av Aa Ap Am:Option Addr)(cv ca cp cm:Nat)(Gb:∀w1,Fr NoT w w1->Calls Tryz.prog 9 #[trV t Av Aa Ap Am cv ca cp cm] w1 (InlP (inlT t) w1))(G9:(inlT t).2 =0->wfS (inlT t).1.main /\szT (inlT t).1.main <=900000000000/\(inlT t).1.vars.length <=32/\(inlT t).1.arrays.length <=4/\(nmsV (inlT t).1.vars).Nodup /\(nmsA (inlT t).1.arrays).Nodup):
  Calls Tryz.prog 20 #[trV t Av Aa Ap Am cv ca cp cm] w (GraP (graT t) w):=by
 obtain⟨w1,Hc⟩:=nmq ((w.alloc (.cells #[.slice Av t.vars.length cv,.slice Aa t.arrays.length ca,.slice Ap t.procs.length cp,.slice Am t.main.len cm] 27)).alloc (.cells #[.int .i64 0,.slice none 0 0,.int .i64 0,.int .i64 0,.int .i64 0,.slice none 0 0] 53));have Hi:Fr NoT w w1:=by rw[Hc];exact((Fr.refl _ _).alloc _).alloc _
 have kk:=zhu w #[.slice Av t.vars.length cv,.slice Aa t.arrays.length ca,.slice Ap t.procs.length cp,.slice Am t.main.len cm] #[.int .i64 0,.slice none 0 0,.int .i64 0,.int .i64 0,.int .i64 0,.slice none 0 0] 27 53;rw[<-Hc]at kk;replace Gb:=Gb w1 Hi;unfold trV at Gb ⊢;obtain⟨n1,Gk⟩:=nmq t.vars.length;obtain⟨n2,Gu⟩:=nmq t.arrays.length;obtain⟨n3,GJ⟩:=nmq t.procs.length;obtain⟨n4,GV⟩:=nmq t.main.len;rw[<-Gk,<-Gu,<-GJ,<-GV]at Gb Hc kk ⊢;obtain⟨R,hR⟩:=nmq (graT t);rw[<-hR];unfold graT at hR;generalize inlT t=X at Gb hR G9;obtain⟨x,er⟩:=X;unfold InlP at Gb;simp only at hR G9;obtain⟨m1,Rx⟩:=nmq x.vars.length;obtain⟨m2,Fg⟩:=nmq x.arrays.length;obtain⟨m3,JF⟩:=nmq x.procs.length;obtain⟨m4,Nk⟩:=nmq x.main.len;obtain⟨V,hV⟩:=nmq (Value.int .i64 er);have Gs:=hdq (show Calls Tryz.prog 9 _ w1 (λe w'=>∃Av Aa Ap Am cv ca cp cm,e= .returned (.tuple #[.agg #[.slice Av m1 cv,.slice Aa m2 ca,.slice Ap m3 cp,.slice Am m4 cm],V])/\TrR w' (New w1.heap.size w') True x Av Aa Ap Am cv ca cp cm/\Fr NoT w1 w')from by
  rw[Rx,Fg,JF,Nk,hV];exact Gb)
 have HV:=hdq hV;have HM:=hdq (aiq Rx (aiq Fg (aiq JF Nk)));have PL:=hdq G9;have HR:=hdq hR;have Ga:=hdq Hc;have Hn:=hdq Hi;have Gv:=hdq kk.2;have Rc:=hdq (show w1.heap.size=w.heap.size+2 from by rw[Hc];simp);clear Gb G9 hR Hc Hi kk Gk Gu GJ GV Rx Fg JF Nk hV;go_enter Tryz.func20,Tryz.ntmps20;go_wp2_with fail;rw[<-Ga.out];go_at_call 9;refine Gs.mono ?_;rintro _ w2 ⟨Bv,Ba,Bp,Bm,dv,da,dp,dm,rfl,hT,Gd⟩;obtain⟨w3,F3⟩:=nmq (w2.alloc (.cells #[.slice Bv m1 dv,.slice Ba m2 da,.slice Bp m3 dp,.slice Bm m4 dm] 27));have GH:Fr NoT w2 w3:=by rw[F3];exact(Fr.refl _ _).alloc _
 have F5:=hdq (show Bk w3 w2.heap.size 27 #[.slice Bv m1 dv,.slice Ba m2 da,.slice Bp m3 dp,.slice Bm m4 dm] by rw[F3];exact Bk.new _ _ _);have KD:=hdq (Gv.fr0 (Gd.trans GH));have Q5:=hdq (hT.keep (GH.same λb hb=>⟨hb.2,id⟩));have Gc:=hdq ((Hn.trans Gd).trans GH);have Rf:=hdq F3;have Rj:=hdq (show w.heap.size+2<=w2.heap.size/\w3.heap.size=w2.heap.size+1 from⟨by have:=Rc.out;have:=Gd.size;omega,by rw[F3];simp⟩);clear hT Gd F3 GH Gv Gs;go_wp2_with fail;rw[<-Rf.out];have hV:=HV.out;subst hV;by_cases h0:er=0
 rotate_left
 ·have YU:¬er=0:=h0;have L9:=Rj.out;have q0:=KD.frozen 0;have q1:=KD.frozen 1;have q2:=KD.frozen 2;have q3:=KD.frozen 3;have q4:=KD.frozen 4;have q5:=KD.frozen 5;have p0:=KD.cell 0;have p1:=KD.cell 1;have p2:=KD.cell 2;have p3:=KD.cell 3;have p4:=KD.cell 4;have p5:=KD.cell 5;have pl:=KD.lt;simp only[getsL]at p0 p1 p2 p3 p4 p5;have FJ:=hdq (show R=(noGr,er)from by rw[HR.out,if_neg h0]);obtain⟨wf,Fc⟩:=nmq (((((((w3).setCell ⟨w.heap.size+1,0,none⟩ (.int .i64 0)).setCell ⟨w.heap.size+1,1,none⟩ (.slice none 0 0)).setCell ⟨w.heap.size+1,2,none⟩ (.int .i64 0)).setCell ⟨w.heap.size+1,3,none⟩ (.int .i64 0)).setCell ⟨w.heap.size+1,4,none⟩ (.int .i64 0)).setCell ⟨w.heap.size+1,5,none⟩ (.slice none 0 0));have GH:Fr NoT w wf:=by rw[Fc];exact((((((Gc.out).high (by omega) _ _).high (by omega) _ _).high (by omega) _ _).high (by omega) _ _).high (by omega) _ _).high (by omega) _ _
  have Jp:Bk wf (w.heap.size+1) 53 #[.int .i64 0,.slice none 0 0,.int .i64 0,.int .i64 0,.int .i64 0,.slice none 0 0]:=by
   have:=(((((KD.set_ 0 (.int .i64 0)).set_ 1 (.slice none 0 0)).set_ 2 (.int .i64 0)).set_ 3 (.int .i64 0)).set_ 4 (.int .i64 0)).set_ 5 (.slice none 0 0);rw[Fc];simpa using this
  have LA:=hdq Fc;have FK:=hdq GH;have KR:=hdq Jp;clear Fc GH Jp;go_wp2_with fail;rw[<-LA.out];refine bodyPost_ret (zam (p:=2) (q:=3) (ty:=53) rfl _ _ (w.heap.size+1) 53 _ (0,0) _ rfl KR.out Tryz.underlying53 rfl zc2) rfl ?_;rw[FJ.out];exact⟨none,none,0,0,rfl,zcX _ _,FK.out⟩
 subst h0;have FG:=hdq (PL rfl);have qj:=hdq (show R=(if 2048 < (grF x).edges.length \/4096 < (grF x).nodes then(noGr,9)else(⟨x.vars.length,x.arrays.map (·.size),(grF x).nodes,0,1,(grF x).edges⟩,0))from by rw[HR.out,if_pos rfl]);clear PL HR;have qk:m1<=9223372036854775807:=by have:=FG.2.2.1;have:=HM.1;omega
 have qm:m2<=9223372036854775807:=by have:=FG.2.2.2.1;have:=HM.2.1;omega
 obtain⟨M,hM⟩:=nmq w3.heap.size;obtain⟨w4,G7⟩:=nmq (w3.alloc (.cells #[.slice Bv m1 dv,.slice Ba m2 da,.slice Bp m3 dp,.slice Bm m4 dm,.int .i64 0,.slice none 0 0,.int .i64 0,.int .i64 0,.int .i64 0,.slice none 0 0] 137));have GX:Bk w4 M 137 #[.slice Bv m1 dv,.slice Ba m2 da,.slice Bp m3 dp,.slice Bm m4 dm,.int .i64 0,.slice none 0 0,.int .i64 0,.int .i64 0,.int .i64 0,.slice none 0 0]:=by rw[G7,hM];exact Bk.new _ _ _
 obtain⟨w5,GE⟩:=nmq (w3.alloc (.cells #[.slice Bv m1 dv,.slice Ba m2 da,.slice Bp m3 dp,.slice Bm m4 dm,.int .i64 m1,.slice none 0 0,.int .i64 0,.int .i64 0,.int .i64 0,.slice none 0 0] 137));have Hs:Fr NoT w3 w5:=by rw[GE];exact(Fr.refl _ _).alloc _
 have Hm:Bk w5 M 137 #[.slice Bv m1 dv,.slice Ba m2 da,.slice Bp m3 dp,.slice Bm m4 dm,.int .i64 m1,.slice none 0 0,.int .i64 0,.int .i64 0,.int .i64 0,.slice none 0 0]:=by rw[GE,hM];exact Bk.new _ _ _
 have t0:=F5.cell 0;have t1:=F5.cell 1;have t2:=F5.cell 2;have t3:=F5.cell 3;have tl:=F5.lt;simp only[getsL]at t0 t1 t2 t3;have JD:=hdq GE;have Hx:=hdq Hs;have Nw:=hdq hM;have uA:=hdq (show w5.heap.size=M+1 by rw[GE,hM];simp);have TV:=hdq (show RgI M (λsl=> #[.slice Bv m1 dv,.slice Ba m2 da,.slice Bp m3 dp,.slice Bm m4 dm,.int .i64 m1,sl,.int .i64 0,.int .i64 0,.int .i64 0,.slice none 0 0]) x.arrays w5 w5 0 (.slice none 0 0)from⟨Hm,World.ownsRow_nil _ _ _ _,Fr.refl _ _,λg e=>by simp[Value.ownBlock]at e⟩);clear G7 GX GE Hs Hm hM;have u0:=(F5.fr0 Hx.out).cell 0;have ul:=(F5.fr0 Hx.out).lt;simp only[getsL]at u0;go_wp2_with fail;rw[<-JD.out,<-Nw.out];clear t0 t1 t2 t3 tl u0 ul;go_loopw [7] (λi wr=>∃j:Nat,j<=m2/\i= .int .i64 j/\∃sl,Hid (RgI M (λsl=> #[.slice Bv m1 dv,.slice Ba m2 da,.slice Bp m3 dp,.slice Bm m4 dm,.int .i64 m1,sl,.int .i64 0,.int .i64 0,.int .i64 0,.slice none 0 0]) x.arrays w5 wr j sl)) (λi _=>m2 - (intOf i).toNat);case atStart=>exact⟨0,Nat.zero_le _,rfl,_,TV⟩
 case round=>
  clear TV;obtain⟨j,hj,rfl,sl,hc⟩:=hrel;have Kc:Fr NoT w3 wr:=(Hx.trans (Fr.refl NoT w5)).back1 (hc.fr.mono λi _ e=>(by have:=uA.out;have:=Nw.out;have e:i=M\/w5.heap.size<=i:=e;show w3.heap.size<=i;omega)) (lrq _);have HJ:=hdq (show j<=4 by have h1:=FG.2.2.2.1;rw[<-HM.2.1]at h1;omega);have x1:=(F5.fr0 Kc).cell 1;have x3:=(F5.fr0 Kc).cell 3;have xl:=(F5.fr0 Kc).lt;simp only[getsL]at x1 x3;have NT:=hc.bk.lt;have ZF:=hdq Kc;clear Kc;by_cases Hr:j < m2
  ·have Hl:(j:Int) < (m2:Int):=by omega
   have Fb:(0:Int)<=(j:Int):=by omega
   obtain⟨⟨a0,a1,a2⟩,ar,hd,JT⟩:=zac (show j < x.arrays.length from by rw[<-HM.2.1];exact Hr);obtain⟨gb,go,rfl,Hd⟩:=Q5.arrays.2.2 (by rw[<-HM.2.1];omega);have Hb:=ArR.drop j Hd;rw[hd]at Hb;obtain⟨⟨Hf,_,r0,r1,e0,e1,e2⟩,_⟩:=Hb;have Nr:gb < w3.heap.size:=by have:=Hf.2;have:=Rj.out;omega
   have qo:=hdq (show(x.arrays.take (j+1)).map (λa=>Value.int .i64 a.size)=((x.arrays.take j).map λa=>Value.int .i64 a.size)++ [.int .i64 a1]from by rw[zcY hd];simp);have Kx:=hdq hc.row;have HC:=hdq hc.out;have HS:=hdq (show ∀W,Fr NoT wr W->RgS9 M w2.heap.size gb (go+j*3+1) sl (.slice (some ⟨gb,go,none⟩) m2 da) a1 W from λW hf=>
    ⟨ltq NT hf.size,(hc.bk.fr0 hf).cell 5,(F5.fr0 (ZF.trans hf)).cell 1,((ZF.trans hf).cell (p:=⟨gb,go+j*3+1,none⟩) Nr id).trans e1⟩)
   obtain⟨i0,hi,Fe,Gh,Gn⟩:=info_parts zhA;have HI:=hdq (aiq hi (aiq Fe (aiq Gh Gn)));clear hd JT Hd Hf r0 r1 e0 e1 e2 hi Fe Gh Gn hc Nr;go_wp2_with fail;refine zad (RgS9 M w2.heap.size gb (go+j*3+1) sl (.slice (some ⟨gb,go,none⟩) m2 da) a1) (λi=>decide (i < 11)) (by kernel_rfl) (HS _ ((Fr.refl NoT wr).drew)) (λhHeld=>?_);refine zaa 0 ?_;simp only[putsL];refine zaa 1 ?_;simp only[putsL];refine zaD 2 hHeld ?_;simp only[putsL];refine zaa 3 ?_;simp only[putsL];refine zaD 4 hHeld ?_;simp only[putsL];refine zaa 5 ?_;simp only[putsL];refine zaa 6 ?_;simp only[putsL];refine zaa 7 ?_;simp only[putsL];refine zaD 8 hHeld ?_;simp only[putsL];refine zab 9 rfl (by kernel_rfl) (λKK hK=>?_);go_simp;obtain⟨w8,GG⟩:=nmq ((wr.alloc (.cells #[.int .i64 a1] 3)).drew );rw[<-GG];have Gj:Fr NoT wr w8:=by rw[GG];exact((Fr.refl _ _).alloc _).drew
   have Hk:Bk w8 wr.heap.size 3 ([.int .i64 a1]:List Value).toArray :=by rw[GG];exact(Bk.new _ _ _).fr0 ((Fr.refl _ _).drew)
   have FH:=HS w8 Gj;have GD:=hdq Gj;have Kf:=hdq Hk;have Fm:=hdq (za6 Kx.out Gj);have MI:M+1<=w8.heap.size:=by have:=Gj.size;omega
   clear GG Gj Hk hHeld;try dsimp only
   refine hK _ _ (λ_ _=>FH) ?_;clear hK KK;try simp only[putsL]
   refine zab 10 rfl (by kernel_rfl) (λKK hK=>?_);refine step_append_lies _ (by rfl) _ _ _ (by rfl) (M+1) 3 i0 (.int .i64 0) 1 8 Tryz.underlying50 HI.1 HI.2.1 HI.2.2.1 HI.2.2.2 rfl (by decide) sl j _ (by rfl) Fm.out
    ⟨wr.heap.size,0,none⟩ 1 1 _ (by rfl) (by rfl) Kf.newsL (by simp[Value.oneCell']) (by omega) ?c63 ?cby MI _ rfl ?_
   case c63=>have:=HJ.out;unfold maxLen;omega
   case cby=>have:=HJ.out;omega
   intro gg cap w9 Hg Hh GP L5;rw[<-qo.out]at Hg;have GU:some M≠sl.ownBlock:=λe=>by have:=(Fm.lt M e.symm).1;omega
   have P3:=HC.bk.fr0 GD.out;have FM:=(Hh.block M P3.lt GU).trans P3;have FM:Bk w9 M 137 #[.slice Bv m1 dv,.slice (some ⟨gb,go,none⟩) m2 da,.slice Bp m3 dp,.slice Bm m4 dm,.int .i64 m1,sl,.int .i64 0,.int .i64 0,.int .i64 0,.slice none 0 0]:=FM;have f9:=FM.frozen 5;have q9:=FM.cell 5;have l9:=FM.lt;simp only[getsL]at q9;have RI:w2.heap.size < w8.heap.size/\gb < w8.heap.size:=by
    have h1:=ZF.size;have h2:=GD.size;have h3:=Rj.out;obtain⟨gb',go',e,Hf⟩:=Q5.arrays.2.2 (by rw[<-HM.2.1];omega);injection e with e;injection e with e4 e5;subst e4;have h4:gb < w2.heap.size:=by
     have:=ArR.drop 0 Hf;cases TJ:x.arrays with
     |nil=>rw[TJ]at Hf;have h5:=HM.2.1;rw[TJ]at h5;simp at h5;omega
     |cons y ys=>rw[TJ]at Hf;exact Hf.1.1.2
    omega
   have Xq:∀g,g<=w2.heap.size->some g≠sl.ownBlock:=λg hg e=>by have:=(Fm.lt g e.symm).1;have:=Nw.out;have:=Rj.out;omega
   have KJ:RgS9 M w2.heap.size gb (go+j*3+1) sl (.slice (some ⟨gb,go,none⟩) m2 da) a1 w9:=⟨l9,q9,(Hh.cell_far ⟨w2.heap.size,1,none⟩ RI.1 (Xq _ (lrq _))).trans FH.2.2.1,(Hh.cell_far ⟨gb,go+j*3+1,none⟩ RI.2 (by
    refine Xq _ ?_;obtain⟨gb',go',e,Hf⟩:=Q5.arrays.2.2 (by rw[<-HM.2.1];omega);injection e with e;injection e with e4 e5;subst e4;cases TJ:x.arrays with
    |nil=>have h5:=HM.2.1;rw[TJ]at h5;simp at h5;omega
    |cons y ys=>rw[TJ]at Hf;exact Nat.le_of_lt Hf.1.1.2)).trans FH.2.2.2⟩
   have MW:Fr (λi=>i=M) w9 (w9.setCell ⟨M,5,none⟩ (.slice (some ⟨gg,0,none⟩) (j+1) cap)):=Fr.own (Fr.refl _ _) _ _;have F8:=hdq (show RgI M (λsl=> #[.slice Bv m1 dv,.slice (some ⟨gb,go,none⟩) m2 da,.slice Bp m3 dp,.slice Bm m4 dm,.int .i64 m1,sl,.int .i64 0,.int .i64 0,.int .i64 0,.slice none 0 0]) x.arrays w5 (w9.setCell ⟨M,5,none⟩ (.slice (some ⟨gg,0,none⟩) (j+1) cap)) (j+1) (.slice (some ⟨gg,0,none⟩) (j+1) cap)from
    ⟨by
     have:=FM.set_ 5 (.slice (some ⟨gg,0,none⟩) (j+1) cap);simpa using this,zaW Hg (Nat.lt_succ_self M) _,
     ((HC.fr.trans GD.any).trans ((Fr.grown Hh λg e _=>HC.hi g e).mono λi _ e=> .inr e)).trans (MW.mono λi _ e=> .inl e),
     λg e=>by
      have e:gg=g:=by simpa[Value.ownBlock]using e
      subst e;rcases GP with e2|e2
      ·exact HC.hi _ (e2.trans rfl)
      ·have h1:=HC.fr.size;have h2:=GD.size;have:gg=w8.heap.size:=by simpa using e2
       omega⟩)
   clear Hg Hh GP L5 GU P3 FM MW FH MI RI Xq;try dsimp only
   refine hK _ _ (λ_ _=>KJ) ?_;clear hK KK;try simp only[putsL]
   refine zab 11 rfl (by kernel_rfl) (λKK hK=>?_);go_simp;refine hK _ _ (λh=>absurd h (by decide)) ?_;clear hK KK;try simp only[putsL]
   refine zab 12 rfl (by kernel_rfl) (λKK hK=>?_);go_simp;refine hK _ _ (λh=>absurd h (by decide)) ?_;clear hK KK;try simp only[putsL]
   refine zab 13 rfl (by kernel_rfl) (λKK hK=>?_);go_simp;refine hK _ _ (λh=>absurd h (by decide)) ?_;clear hK KK;try simp only[putsL]
   refine zai (by kernel_rfl) ?_;clear KJ f9 q9 l9 x1 x3 xl NT;go_wp2_with fail;go_roundw;case rel=>exact⟨j+1,by omega,by go_num,_,F8⟩
   case measure=>simp[intOf];omega
  ·have Hl:¬(j:Int) < (m2:Int):=by omega
   have hj:j=m2:=by omega
   subst hj;have qp:=Nw.out;have Ph:x.arrays.take j=x.arrays:=List.take_of_length_le (by have:=HM.2.1;omega);have r1:NoR (zav (nmsV x.vars)):=by
    rw[zbQ _ FG.2.2.2.2.1];exact zdj _ (by rw[nmsV,List.length_map];have:=FG.2.2.1;omega)
   have r2:NoR (zav (nmsA x.arrays)):=by
    rw[zbQ _ FG.2.2.2.2.2];exact zdj _ (by rw[nmsA,List.length_map];have:=FG.2.2.2.1;omega)
   obtain⟨wa,Pr⟩:=nmq ((wr.setCell ⟨M,6,none⟩ (.int .i64 2)).setCell ⟨M,8,none⟩ (.int .i64 1));have K3:Fr (λi=>i=M) wr wa:=by rw[Pr];exact Fr.own (Fr.own (Fr.refl _ _) _ _) _ _
   have SX:Bk wa M 137 #[.slice Bv m1 dv,.slice Ba j da,.slice Bp m3 dp,.slice Bm m4 dm,.int .i64 m1,sl,.int .i64 2,.int .i64 0,.int .i64 1,.slice none 0 0]:=by
    have:=(hc.bk.set_ 6 (.int .i64 2)).set_ 8 (.int .i64 1);rw[Pr];simpa using this
   have Lq:wa.ownsRow (M+1) 3 1 sl j (x.arrays.map λa=>Value.int .i64 a.size):=by
    have:=hc.row;rw[Ph]at this;rw[Pr];exact zaW (zaW this (Nat.lt_succ_self M) _) (Nat.lt_succ_self M) _
   have NE:Fr NoT w3 wa:=Fr.back1 ZF.out (K3.mono λi _ e=>(by have e:i=M:=e;show w3.heap.size<=i;omega)) (lrq _);have jf:=Q5.keep (NE.same λb hb=>⟨ltq (show b < w3.heap.size from by have:=hb.2;have:=Rj.out;first|exact hb.2|omega) (lrq _),id⟩);obtain⟨C,hC⟩:∃C:RfK,C=⟨M,M,x.vars,x.arrays,Bv,Ba,Bp,Bm,dv,da,dp,dm,m3,m4,m1,sl,New w1.heap.size w2,True⟩:=⟨_,rfl⟩;have ZJ:C.At ⟨2, []⟩ (.slice none 0 0) wa:=by
    rw[hC];refine⟨⟨lrq _,?_,by simp[Value.ownBlock], [],World.ownsRow_nil _ _ _ _,rfl⟩,λb hb=>by have:=hb.2;have:=Rj.out;show b < M;omega,jf.vars,jf.arrays,r1,r2⟩;rw[<-HM.1,<-HM.2.1];exact SX
   have Mr:=zlO C x.main FG.1 0 1 0 ⟨2, []⟩ (.slice none 0 0) wa (New w1.heap.size w2) True Bm dm ZJ (λb hb=>by have:=hb.2;have:=Rj.out;rw[hC];show b < M;omega) ⟨by unfold in64;decide,by unfold in64;decide,by unfold in64;decide⟩ ⟨by show(0:Int)<=2;omega,by have:=FG.2.1;show(2:Int)+_<=_;omega,by have:=FG.2.1;show 0+_<=_;omega⟩ jf.main;rw[<-HM.2.2.2]at Mr;have Pa:=zaZ C.sc C.ar x.main 0 1 0 ⟨2, []⟩;obtain⟨s9,KJ⟩:=nmq (grF x);have Y0:blkF C.sc C.ar (mksS C.sc C.ar x.main) 0 1 0 ⟨2, []⟩=s9:=by
    rw[KJ,hC];show blkF (zav (nmsV x.vars)) (zav (nmsA x.arrays)) (mksS (zav (nmsV x.vars)) (zav (nmsA x.arrays)) x.main) 0 1 0 ⟨2, []⟩=grF x
    rw[zbQ _ FG.2.2.2.2.1,zbQ _ FG.2.2.2.2.2];rfl
   rw[Y0]at Pa Mr;have vd:C.b=M:=by rw[hC]
   rw[vd]at Mr;have Gt:=Lq;rw[show(x.arrays.map λa=>Value.int .i64 a.size)=(x.arrays.map (·.size)).map (Value.int .i64)from by rw[List.map_map];rfl]at Gt;have SB:∀n∈x.arrays.map (·.size),in64 n:=λn hn=>by
    obtain⟨a,ha,rfl⟩:=List.mem_map.1 hn;obtain⟨b,o,_,h⟩:=Q5.arrays.2.2 (List.length_pos_iff.2 λe=>by rw[e]at ha;simp at ha);exact zkk h a ha
   have Jh:(x.arrays.map (·.size)).length =j:=by rw[List.length_map];exact HM.2.1.symm
   obtain⟨Ag,cg,Fh,ZK⟩:=zeK (l:=x.arrays.map (·.size)) (by rw[Jh];exact Gt) SB (by rw[Jh];have:=FG.2.2.2.1;have:=HM.2.1;omega);rw[Jh]at Fh;have Vs:∀v' w',C.At s9 v' w'->RfS M M (.slice Bv m1 dv) (.slice Ba j da) (.slice Bp m3 dp) (.slice Bm m4 dm) m1 sl s9 v' w':=λv' w' h=>by
    have h:=h.st;rw[hC]at h;have h:RfS M M (.slice Bv x.vars.length dv) (.slice Ba x.arrays.length da) (.slice Bp m3 dp) (.slice Bm m4 dm) m1 sl s9 v' w':=h;rw[<-HM.1,<-HM.2.1]at h;exact h
   subst Fh;have SC:=hdq (Mr.mono λe w' ⟨v',h1,h2,h3⟩=>(show ∃v',e=Ending.returned (.tuple #[])/\RfS M M (.slice Bv m1 dv) (.slice Ba j da) (.slice Bp m3 dp) (.slice Bm m4 dm) m1 (.slice Ag j cg) s9 v' w'/\Made M (.slice none 0 0) v' wa w' from⟨v',h1,Vs v' w' h2,vd▸h3⟩));have Uc:=hdq (show 2<=s9.nodes/\s9.nodes<=1000000000000/\s9.edges.length<=1000000000000 from by obtain⟨g1,g2,g3⟩:=Pa;have:=FG.2.1;simp only[List.length_nil]at g1 g2 g3;exact⟨g1,by omega,by omega⟩);have ZL:=hdq KJ;have qq:=hdq ZK;have VK:=hdq NE;have Vy:=hdq Pr;have qn:w2.heap.size < M:=by have:=Nw.out;have:=Rj.out;omega
   have uB:w2.heap.size≠M:=by omega
   have uC:M≠w2.heap.size:=by omega
   have c6:=hc.bk.frozen 6;have c8:=hc.bk.frozen 8;have e6:=hc.bk.cell 6;have e8:=hc.bk.cell 8;have el:=hc.bk.lt;simp only[getsL]at e6 e8;clear Mr Pa KJ ZK Gt SB Jh ZJ Ph qp NE SX Lq K3 jf hC Y0 vd Vs r1 r2 Pr hc;go_wp2_with fail;rw[<-Vy.out];refine SC.mono ?_;rintro _ w9 ⟨u',rfl,P4,Pb⟩;obtain⟨cs9,TP,SD⟩:=P4.row;obtain⟨Ae,ce,hu,ZM⟩:=zeJ TP SD (by rw[List.length_take];omega);subst hu;have Jl:=P4.bk;have P5:Fr (λi=>i=M) wa w9:=Pb.fr.mono λi _ e=>by
    rcases e with e|e
    ·exact e
    ·simp[Value.ownBlock]at e
   have P6:Fr NoT w3 w9:=Fr.back1 VK.out (P5.mono λi _ e=>(by have:=Nw.out;have e:i=M:=e;show w3.heap.size<=i;omega)) (lrq _);have FI:=KD.fr0 P6;obtain⟨nE,Ud⟩:=nmq ((s9.edges.take 2049).length );obtain⟨nN,Ue⟩:=nmq s9.nodes;rw[<-Ud,<-Ue]at Jl;have L9:=Rj.out;have q0:=FI.frozen 0;have q1:=FI.frozen 1;have q2:=FI.frozen 2;have q3:=FI.frozen 3;have q4:=FI.frozen 4;have q5:=FI.frozen 5;have p0:=FI.cell 0;have p1:=FI.cell 1;have p2:=FI.cell 2;have p3:=FI.cell 3;have p4:=FI.cell 4;have p5:=FI.cell 5;have pl:=FI.lt;simp only[getsL]at p0 p1 p2 p3 p4 p5;have l0:=Jl.cell 4;have l1:=Jl.cell 5;have l2:=Jl.cell 6;have l3:=Jl.cell 7;have l4:=Jl.cell 8;have l5:=Jl.cell 9;have ll:=Jl.lt;simp only[getsL]at l0 l1 l2 l3 l4 l5;have Xr:(2048 < nE↔2048 < s9.edges.length)/\(¬2048 < nE->s9.edges.take 2049=s9.edges):=by
    rw[Ud,List.length_take];exact⟨by omega,λh=>List.take_of_length_le (by omega)⟩
   have Fu:=hdq (show R=(if 2048 < nE\/4096 < nN then(noGr,9)else(⟨x.vars.length,x.arrays.map (·.size),nN,0,1,s9.edges⟩,0))from by rw[qj.out,<-ZL.out,<-Ue];simp only[Xr.1]);have W3:=hdq FI;have P7:=hdq P6;have SE:=hdq P5;have qt:=hdq ZM;have PB:=hdq (aiq Ud (aiq Ue Xr.2));clear P4 Pb TP SD ZM Jl P5 P6 FI Ud Ue SC Xr;rcases(show(2048:Int) < (nE:Int)\/(¬(2048:Int) < (nE:Int)/\(4096:Int) < nN)\/(¬(2048:Int) < (nE:Int)/\¬(4096:Int) < nN)from by omega)with h1|⟨h1,h2⟩|⟨h1,h2⟩
   ·have FJ:=hdq (show R=(noGr,9)from by rw[Fu.out,if_pos (.inl (by omega))]);obtain⟨wf,Fc⟩:=nmq (((((((w9).setCell ⟨w.heap.size+1,0,none⟩ (.int .i64 0)).setCell ⟨w.heap.size+1,1,none⟩ (.slice none 0 0)).setCell ⟨w.heap.size+1,2,none⟩ (.int .i64 0)).setCell ⟨w.heap.size+1,3,none⟩ (.int .i64 0)).setCell ⟨w.heap.size+1,4,none⟩ (.int .i64 0)).setCell ⟨w.heap.size+1,5,none⟩ (.slice none 0 0));have GH:Fr NoT w wf:=by rw[Fc];exact(((((((Gc.trans P7.out)).high (by omega) _ _).high (by omega) _ _).high (by omega) _ _).high (by omega) _ _).high (by omega) _ _).high (by omega) _ _
    have Jp:Bk wf (w.heap.size+1) 53 #[.int .i64 0,.slice none 0 0,.int .i64 0,.int .i64 0,.int .i64 0,.slice none 0 0]:=by
     have:=(((((W3.set_ 0 (.int .i64 0)).set_ 1 (.slice none 0 0)).set_ 2 (.int .i64 0)).set_ 3 (.int .i64 0)).set_ 4 (.int .i64 0)).set_ 5 (.slice none 0 0);rw[Fc];simpa using this
    have LA:=hdq Fc;have FK:=hdq GH;have KR:=hdq Jp;clear Fc GH Jp;go_wp2_with fail;rw[<-LA.out];refine bodyPost_ret (zam (p:=2) (q:=3) (ty:=53) rfl _ _ (w.heap.size+1) 53 _ (0,0) _ rfl KR.out Tryz.underlying53 rfl zc2) rfl ?_;rw[FJ.out];exact⟨none,none,0,0,rfl,zcX _ _,FK.out⟩
   ·have FJ:=hdq (show R=(noGr,9)from by rw[Fu.out,if_pos (.inr h2)]);obtain⟨wf,Fc⟩:=nmq (((((((w9).setCell ⟨w.heap.size+1,0,none⟩ (.int .i64 0)).setCell ⟨w.heap.size+1,1,none⟩ (.slice none 0 0)).setCell ⟨w.heap.size+1,2,none⟩ (.int .i64 0)).setCell ⟨w.heap.size+1,3,none⟩ (.int .i64 0)).setCell ⟨w.heap.size+1,4,none⟩ (.int .i64 0)).setCell ⟨w.heap.size+1,5,none⟩ (.slice none 0 0));have GH:Fr NoT w wf:=by rw[Fc];exact(((((((Gc.trans P7.out)).high (by omega) _ _).high (by omega) _ _).high (by omega) _ _).high (by omega) _ _).high (by omega) _ _).high (by omega) _ _
    have Jp:Bk wf (w.heap.size+1) 53 #[.int .i64 0,.slice none 0 0,.int .i64 0,.int .i64 0,.int .i64 0,.slice none 0 0]:=by
     have:=(((((W3.set_ 0 (.int .i64 0)).set_ 1 (.slice none 0 0)).set_ 2 (.int .i64 0)).set_ 3 (.int .i64 0)).set_ 4 (.int .i64 0)).set_ 5 (.slice none 0 0);rw[Fc];simpa using this
    have LA:=hdq Fc;have FK:=hdq GH;have KR:=hdq Jp;clear Fc GH Jp;go_wp2_with fail;rw[<-LA.out];refine bodyPost_ret (zam (p:=2) (q:=3) (ty:=53) rfl _ _ (w.heap.size+1) 53 _ (0,0) _ rfl KR.out Tryz.underlying53 rfl zc2) rfl ?_;rw[FJ.out];exact⟨none,none,0,0,rfl,zcX _ _,FK.out⟩
   ·have FJ:=hdq (show R=(⟨x.vars.length,x.arrays.map (·.size),nN,0,1,s9.edges⟩,0)from by rw[Fu.out,if_neg (by omega)]);obtain⟨wf,Fc⟩:=nmq ((((((w9.setCell ⟨w.heap.size+1,0,none⟩ (.int .i64 m1)).setCell ⟨w.heap.size+1,1,none⟩ (.slice Ag j cg)).setCell ⟨w.heap.size+1,2,none⟩ (.int .i64 nN)).setCell ⟨w.heap.size+1,3,none⟩ (.int .i64 0)).setCell ⟨w.heap.size+1,4,none⟩ (.int .i64 1)).setCell ⟨w.heap.size+1,5,none⟩ (.slice Ae nE ce));have JM:Fr (λi=>i=w.heap.size+1) w9 wf:=by rw[Fc];exact Fr.own (Fr.own (Fr.own (Fr.own (Fr.own (Fr.own (Fr.refl _ _) _ _) _ _) _ _) _ _) _ _) _ _
    have GH:Fr NoT w wf:=Fr.thenT (Gc.trans P7.out) JM λi hi e=>by have e:i=w.heap.size+1:=e;omega
    have Jp:Bk wf (w.heap.size+1) 53 #[.int .i64 m1,.slice Ag j cg,.int .i64 nN,.int .i64 0,.int .i64 1,.slice Ae nE ce]:=by
     have:=(((((W3.set_ 0 (.int .i64 m1)).set_ 1 (.slice Ag j cg)).set_ 2 (.int .i64 nN)).set_ 3 (.int .i64 0)).set_ 4 (.int .i64 1)).set_ 5 (.slice Ae nE ce);rw[Fc];simpa using this
    have WU:w.heap.size+1 < M:=by have:=Nw.out;have:=Rj.out;omega
    have qu:=SE.size;have Gm:=JM.size;have SF:SameS (New (M+1) wa) wa w9:=SE.same λb hb=>⟨hb.2,λe=>by have e:b=M:=e;have:M+1<=b:=hb.1;omega⟩;have SG:SameS (New (M+1) wa) w9 wf:=JM.same λb hb=>⟨by have:b < wa.heap.size:=hb.2;omega,λe=>by have e:b=w.heap.size+1:=e;have:M+1<=b:=hb.1;omega⟩;have Pc:SameS (New (M+1) w9) w9 wf:=JM.same λb hb=>⟨hb.2,λe=>by have e:b=w.heap.size+1:=e;have:M+1<=b:=hb.1;omega⟩;have SH:∀b,New (M+1) wa b->New w.heap.size wf b:=λb hb=>⟨by have:M+1<=b:=hb.1;omega,by have:b < wa.heap.size:=hb.2;omega⟩;have SI:∀b,New (M+1) w9 b->New w.heap.size wf b:=λb hb=>⟨by have:M+1<=b:=hb.1;omega,by have:b < w9.heap.size:=hb.2;omega⟩;have Qu:=PB.2.2 (by omega);have ve:=qt.out;rw[Qu]at ve;have qv:=hdq (show GrR wf (New w.heap.size wf) ⟨x.vars.length,x.arrays.map (·.size),nN,0,1,s9.edges⟩ Ag cg Ae ce from
     ⟨qq.imp λ_ _ h=>((h.keep SF).keep SG).more SH,
      ve.imp λ_ _ h=>EgR.more SI (EgR.keep Pc h),
      by
       have g1:=Uc.out;have g2:=PB.2.1;have g3:=FG.2.2.1;unfold Gr.ok in64;refine⟨⟨?_,?_⟩,⟨?_,?_⟩,⟨?_,?_⟩,⟨?_,?_⟩⟩
       ·show(-9223372036854775808:Int)<=(x.vars.length:Int);omega
       ·show(x.vars.length:Int)<=9223372036854775807;omega
       ·show -9223372036854775808<=nN;omega
       ·show nN<=9223372036854775807;omega
       ·show(-9223372036854775808:Int)<=0;omega
       ·show(0:Int)<=9223372036854775807;omega
       ·show(-9223372036854775808:Int)<=1;omega
       ·show(1:Int)<=9223372036854775807;omega⟩)
    have LA:=hdq Fc;have FK:=hdq GH;have KR:=hdq Jp;have K9:=hdq (show nE=s9.edges.length from by rw[PB.1,Qu]);clear Fc JM GH Jp WU qu Gm SF SG Pc SH SI Qu ve;go_wp2_with fail;rw[<-LA.out];refine bodyPost_ret (zam (p:=2) (q:=3) (ty:=53) rfl _ _ (w.heap.size+1) 53 _ (0,0) _ rfl KR.out Tryz.underlying53 rfl zc2) rfl ?_;rw[FJ.out];refine⟨Ag,Ae,cg,ce,?_,qv.out,FK.out⟩;simp only[grV,List.length_map,<-HM.1,<-HM.2.1,<-K9.out];rfl
theorem ziv {t:Tre}(h:(inlT t).2 =0):(nmsV (inlT t).1.vars).Nodup /\(nmsA (inlT t).1.arrays).Nodup :=by
 unfold inlT at h;split at h
 ·rename_i h0;split at h
  ·exact absurd h (by decide)
  ·rename_i hf;have G9:=zc9 h0;have hf:zaT (inlQ t).2 =false:=by simpa using hf
   have e:inlT t=(⟨(inlQ t).2.vars,t.arrays, [],(inlQ t).1⟩,0):=by
    unfold inlT;rw[if_pos h0,if_neg (by rw[hf];decide)]
   obtain⟨h1,h2,h3,news,h4,h5,h6,h7⟩:=zfh G9 hf;rw[e];refine⟨?_,(freshL_iff.1 G9.arrays).2⟩;show(nmsV (inlQ t).2.vars).Nodup
   rw[h4];exact h6
 ·rename_i h0;exact absurd h h0
theorem ziw (t:Tre)(w:World)(S:Nat->Prop)(Z:Prop)(Av Aa Ap Am:Option Addr)(cv ca cp cm:Nat)(Kr:Lib.TabIs Tryz.prog w "internal/strconv.uint64pow10" .u64 Lib.pow10Tab)(hS:∀b,S b->b < w.heap.size)(Ht:SzT t)(hm:CdT 1000000000 t)(hx:TrR w S Z t Av Aa Ap Am cv ca cp cm):
  Calls Tryz.prog 20 #[trV t Av Aa Ap Am cv ca cp cm] w (GraP (graT t) w):=
 zkx t w Av Aa Ap Am cv ca cp cm (λw1 Hi=>zlP t w1 S Z Av Aa Ap Am cv ca cp cm (zhz Hi Kr) (λb hb=>ltq (hS b hb) Hi.size) Ht (hx.keep (Hi.same λb hb=>⟨hS b hb,id⟩)))
  λh=>have h0:=zkj Ht hm (lrq _) h
   ⟨h0.wf,h0.few,h0.vars.2,h0.arrays.2,ziv h⟩
