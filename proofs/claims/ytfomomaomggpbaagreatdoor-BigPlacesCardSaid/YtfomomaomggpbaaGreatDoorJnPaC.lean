/- parse. -/
import Derived.Test.YtfomomaomggpbaaGreatDoorJnPa
import Derived.Deep.RegionHeld2
set_option linter.all false
set_option maxHeartbeats 3200000
set_option maxRecDepth 100000
namespace Go.Proofs.YtfomomaomggpbaaGreatDoor
open Go.RowKit Go.Shelf
theorem zd9 (x:ByteArray):∀(zs:List ByteArray)(i:Nat),Lib.idxFromS zs x i<=(i+zs.length:Nat)
 | [],i=>by simp[Lib.idxFromS]<;>omega
 |z::zs,i=>by
  have:=zd9 x zs (i+1);simp only[Lib.idxFromS];split
  ·simp;omega
  ·simp at this ⊢;omega
theorem zh2 (signs:List (List UInt8))(l:List Tk):isP signs l<=signs.length:=by
 unfold isP;split
 ·omega
 ·have:=zd9 (txt (hdT l)) (signs.map λs=>(⟨s.toArray⟩:ByteArray)) 0;simpa[Lib.idxOfS]using this
def lenP (C:Pcx)(w:World):Nat:=match w.cell? ⟨C.P,0,none⟩with|some (.slice _ m _)=>m|_=>0
theorem PaAt.lenP {C:Pcx}{w:World}{l:List Tk}{d:Nat}(h:PaAt C w l d):lenP C w=l.length:=by
 obtain⟨j,cap,m,GW,Jn,hl,F9,G7,hb,p0,_⟩:=h.cells;unfold Go.Proofs.YtfomomaomggpbaaGreatDoor.lenP;rw[p0,GW]
def NewX (L bx:Nat)(w:World):Nat->Prop:=λb=>L<=b/\b < w.heap.size/\b≠bx
structure ChE (C:Pcx)(w:World)(bx d:Nat)(R:PR Ex)(one:List Tk->PR Ex)(first:Int)(signs:List (List UInt8))(wr:World)(x:Ex)(A:Option Addr)(c:Nat)(l:List Tk):Prop where
 eq:∃f,R=zaG one (twoX first) signs f x l/\l.length<=f
 box0:Bk wr w.heap.size 175 #[.int .u8 0,.string noB,.int .i64 0,.slice none 0 0,.int .i64 0]
 box:Bk wr bx 175 #[.int .u8 x.k,.string x.nm,.int .i64 x.n,.slice A x.args.len c,.int .i64 x.at_]
 hbx:w.heap.size+1<=bx
 val:ExVS wr (NewX (w.heap.size+1) bx wr) (exV x.k x.nm x.n A x.args.len c x.at_) x
 pa:PaAt C wr l d
 fr:Fr C.T w wr
theorem ExVS.parts {w:World}{S:Nat->Prop}{v:Value}{x:Ex}(h:ExVS w S v x):∃A c,v=exV x.k x.nm x.n A x.args.len c x.at_:=by
 obtain⟨_,_,_,A,c,e,_⟩:=h;exact⟨A,c,e⟩
theorem zmt {C:Pcx}{w wr w5 w7 w8:World}{bx d:Nat}{R:PR Ex}{one:List Tk->PR Ex}{first:Int}{signs:List (List UInt8)}{x y:Ex}{A A2:Option Addr}{c1 c2:Nat}{r l2:List Tk}{k:Int}{g2:Nat}
  (hk:C.Ok) (hL:C.P < w.heap.size/\C.TB < w.heap.size/\C.W0.heap.size<=w.heap.size) (Gv:ChE C w bx d R one first signs wr x A c1 r) (Lc:bx≠C.P) (Hm:Fr C.T wr w5) (NZ:ExV w7 w5.drew.heap.size (exV y.k y.nm y.n A2 y.args.len c2 y.at_) y) (Fb:PaAt C w7 l2 d) (Hs:Fr C.T w5.drew w7)
  (N0:Bk w8 g2 175 #[.int .u8 x.k,.string x.nm,.int .i64 x.n,.slice A x.args.len c1,.int .i64 x.at_,.int .u8 y.k,.string y.nm,.int .i64 y.n,.slice A2 y.args.len c2,.int .i64 y.at_])
  (Qd:w7.heap.size<=g2/\g2 < w8.heap.size) (GQ:Fr NoT w7 w8) (F3:Bk w8 bx 175 #[.int .u8 x.k,.string x.nm,.int .i64 x.n,.slice A x.args.len c1,.int .i64 x.at_])
  (KI:∃f,R=zaG one (twoX first) signs f (twoX first k (hdT r).at_ x y) l2/\l2.length<=f) (G9:0<=k) (KD:k<=5) (Jo:0<=first) (Hd:first<=20) (w9:World)
  (KJ:w9=(((((w8.setCell ⟨bx,0,none⟩ (.int .u8 (first+k))).setCell ⟨bx,1,none⟩ (.string noB)).setCell ⟨bx,2,none⟩ (.int .i64 0)).setCell ⟨bx,3,none⟩ (.slice (some ⟨g2,0,none⟩) 2 2)).setCell ⟨bx,4,none⟩ (.int .i64 ((hdT r).at_ :Int)))):
  ChE C w bx d R one first signs w9 (twoX first k (hdT r).at_ x y) (some ⟨g2,0,none⟩) 2 l2:=by
 have Gl:Fr (λb=>b=bx) w8 w9:=by rw[KJ];exact aJ (aJ (aJ (aJ (aJ aH))))
 have JS:bx < wr.heap.size:=Gv.box.lt;have U6:=Gv.fr.size;have RL:=Hm.size;have N1:w5.heap.size<=w7.heap.size:=Hs.size;have X5:=GQ.size;have PP:=Gl.size;have Gz:=Gv.hbx;have hT:∀b,C.T b->b=C.P:=λ_ h=>h;have FU:Fr (λb=>b=C.P\/b=bx) wr w9:=
  (((Hm.drew.mono λi _ h=>Or.inl (hT i h)).trans (Hs.mono λi _ h=>Or.inl (hT i h))).trans GQ.any).trans (Gl.mono λi _ h=>Or.inr h)
 have Ld:Fr (λb=>b=bx) w7 w9:=GQ.any.trans Gl;have Hg:in64 ((hdT r).at_ :Int):=by
  obtain⟨j,cap,e,_⟩:=Gv.pa.at_;have:=hk.pos _ (List.mem_of_getElem? (zaH e Gv.pa.ne).1);unfold in64;omega
 obtain⟨x1,x2,x3,Ax,cx,ex,JJ⟩:=Gv.val;obtain⟨y1,y2,y3,Ay,cy,ey,VQ⟩:=NZ;simp only[exV,Value.agg.injEq,Array.mk.injEq,List.cons.injEq,Value.slice.injEq,true_and,and_true]at ex ey;obtain⟨rfl,rfl⟩:=ex;obtain⟨rfl,rfl⟩:=ey;refine⟨KI,?_,?_,Gv.hbx,?_,?_,?_⟩
 ·exact(Gv.box0.fr FU (λe=>by
   rcases e with e|e<;>omega))
 ·rw[KJ];have:=((((F3.set_ 0 (.int .u8 (first+k))).set_ 1 (.string noB)).set_ 2 (.int .i64 0)).set_ 3 (.slice (some ⟨g2,0,none⟩) 2 2)).set_ 4 (.int .i64 ((hdT r).at_ :Int));have e:Bk (((((w8.setCell ⟨bx,0,none⟩ (.int .u8 (first+k))).setCell ⟨bx,1,none⟩ (.string noB)).setCell ⟨bx,2,none⟩ (.int .i64 0)).setCell ⟨bx,3,none⟩ (.slice (some ⟨g2,0,none⟩) 2 2)).setCell ⟨bx,4,none⟩ (.int .i64 ((hdT r).at_ :Int))) bx 175 #[.int .u8 (first+k),.string noB,.int .i64 0,.slice (some ⟨g2,0,none⟩) 2 2,.int .i64 ((hdT r).at_ :Int)]:=by simpa using this
  exact e
 ·refine⟨by show in8 (first+k);unfold in8;omega,by show in64 0;unfold in64;omega,Hg,some ⟨g2,0,none⟩,2,rfl,aL 2,sl2,λ_=>⟨g2,0,rfl,?_⟩⟩;refine zj7 (N0.fr Gl (λe=>by omega)) ⟨by omega,by omega,by omega⟩ ⟨x1,x2,x3⟩ ⟨y1,y2,y3⟩ (JJ.imp λ_ _ h=>?_) (VQ.imp λ_ _ h=>?_)
  ·refine ExR.more (λb hb=>⟨hb.1,by have:=hb.2.1;omega,hb.2.2⟩) (ExR.keep (FU.same λb hb=>⟨hb.2.1,λe=>?_⟩) h);rcases e with e|e
   ·have:=hb.1;omega
   ·exact hb.2.2 e
  ·refine ExR.more (λb hb=>⟨?_,?_,?_⟩) (ExR.keep (Ld.same λb hb=>⟨hb.2,λe=>?_⟩) h);all_goals
    have h1:w5.heap.size<=b:=hb.1;have h2:b < w7.heap.size:=hb.2
    first|omega|(show b < w9.heap.size;omega)|(show w.heap.size+1<=b;omega)
 ·refine Fb.fr Ld (λe=>Lc e.symm) (λe=>?_) (λi hi e=>?_)
  ·omega
  ·omega
 ·rw[KJ];have:=((Gv.fr.trans Hm).drew.trans Hs).trans GQ.any;exact Fr.high (Fr.high (Fr.high (Fr.high (Fr.high this (by omega) _ _) (by omega) _ _) (by omega) _ _) (by omega) _ _) (by omega) _ _
theorem ziV (C:Pcx)(one:List Tk->PR Ex)(first:Int)(signs:List (List UInt8))(g:Nat)(fst cap:Array Value)(bt b c:Nat)(l:List Tk)(d:Nat)(w:World)(hk:C.Ok)(h:PaAt C w l d)(Jy:Shr one)
  (L6:∀s∈signs,s≠ []) (Gq:signs.length<=3) (hc:∀j,j < signs.length->w.cell? ⟨b,j,none⟩=some (.string ⟨(signs.getD j []).toArray⟩)) (JS:b < w.heap.size) (Tx:b≠C.P)
  (MI:Bk w bt 5 #[.int .u8 first]) (Mi:bt≠C.P) (Jo:0<=first) (Hd:first<=20)
  (hent:Enters Tryz.prog g) (Hp:∀W,Fr C.T w W->∀l',PaAt C W l' d->Calls Tryz.prog g (fst++cap) W (ExP C d (one l') W)):
  Calls Tryz.prog 285 #[pP C,.func (.func g) fst cap,.func (.func 305) #[] #[.pointer (some ⟨bt,0,none⟩)],.slice (some ⟨b,0,none⟩) signs.length c] w (ExP C d (zaU one (twoX first) signs l) w):=by
 obtain⟨R,hR⟩:=aF (zaU one (twoX first) signs l);rw[<-hR];have HR:=aA hR;have H0:=aA h;have HL:=aA h.lts;have JZ:=aA Hp;obtain⟨n,hn⟩:=aF signs.length;have HC:=aA hc;have YQ:=aA L6;have HN:=aA hn;rw[<-hn]at Gq ⊢;unfold Enters at hent;have h2:=h.alloc (.cells #[.int .u8 0,.string ⟨#[]⟩,.int .i64 0,.slice none 0 0,.int .i64 0] 175);have H2:=aA h2;clear hR h Hp hc L6 hn h2;cases ho:one l with
 |err e a=>
  have hq:=JZ _ ((Fr.refl C.T w).alloc (.cells #[.int .u8 0,.string ⟨#[]⟩,.int .i64 0,.slice none 0 0,.int .i64 0] 175)) l H2.out;rw[ho]at hq;have Qe:R= .err e a:=by rw[HR.out];unfold zaU;rw[ho];rfl
  rw[Qe];unfold ExP at hq ⊢;simp only at hq ⊢;unfold zaf pP at*;have HQ:=aA hq;clear hq ho Qe;go_enter Tryz.func285,Tryz.ntmps285;go_wp2_with fail;try simp only[Array.append_empty]
  refine HQ.mono ?_;rintro _ w2 ⟨rfl,hf⟩;go_wp2_with fail;exact⟨rfl,rfl,(aH.alloc _).trans hf⟩
 |ok x l1=>
  have hq:=JZ _ ((Fr.refl C.T w).alloc (.cells #[.int .u8 0,.string ⟨#[]⟩,.int .i64 0,.slice none 0 0,.int .i64 0] 175)) l H2.out;rw[ho]at hq;have Qe:R=zaG one (twoX first) signs l1.length x l1:=by rw[HR.out];unfold zaU;rw[ho];rfl
  have Ty:=aA Qe;unfold ExP at hq;simp only at hq;unfold pP at*;have HQ:=aA hq;clear hq ho Qe;go_enter Tryz.func285,Tryz.ntmps285;go_wp2_with fail;try simp only[Array.append_empty]
  refine HQ.mono ?_;rintro _ w2 ⟨v,rfl,hv,GP,hf⟩;obtain⟨A,c1,rfl⟩:=ExVS.parts hv;have Gv:ChE C w w2.heap.size d R one first signs (w2.alloc (.cells #[.int .u8 x.k,.string x.nm,.int .i64 x.n,.slice A x.args.len c1,.int .i64 x.at_] 175)) x A c1 l1:=by
   have hs:=hf.size;rw[World.size_alloc]at hs;refine⟨⟨_,Ty.out,aL _⟩,?_,Bk.new _ _ _,hs,?_,GP.alloc _,((aH.alloc _).trans hf).alloc _⟩
   ·exact((Bk.new w _ _).fr hf (λe=>by have e:w.heap.size=C.P:=e;have:=HL.1;omega)).alloc _
   ·refine ExVS.fr (T:=NoT) hv (aH.alloc _) (λb hb=>⟨hb.2,id⟩) λb hb=>?_;have h1:=hb.1;have h2:=hb.2;rw[World.size_alloc]at h1;exact⟨h1,by rw[World.size_alloc];omega,by omega⟩
  obtain⟨bx,hbx⟩:=aF w2.heap.size;obtain⟨w3,GR⟩:=aF (w2.alloc (.cells #[.int .u8 x.k,.string x.nm,.int .i64 x.n,.slice A x.args.len c1,.int .i64 x.at_] 175));rw[<-hbx,<-GR]at Gv;unfold exV;have Tz:=aA Gv;have JV:=aA hbx;have LT:=aA GR;have VR:∀W l',Fr C.T w W->PaAt C W l' d->Calls Tryz.prog 200 #[.pointer (some ⟨C.P,0,none⟩),.slice (some ⟨b,0,none⟩) n c] W λe w'=>e= .returned (.int .i64 (isP signs l'))/\W=w':=λW l' hF hP=>by
   have:=zh0 C signs l' d b 0 c W hP (by rw[<-HN.out];omega) (λj hj=>by
    rw[Nat.zero_add];exact(hF.cell (p:=⟨b,j,none⟩) JS Tx).trans (HC j hj))
   rw[<-HN.out]at this;exact this
  have Ry:=aA VR;clear hv GP hf Gv hbx GR VR;go_wp2_with fail;rw[<-LT.out];refine(Ry _ _ Tz.fr Tz.pa).mono ?_;rintro _ w4 ⟨rfl,rfl⟩;rw[<-JV.out];go_wp2_with fail;go_loopw [10] (λv wr=>∃(x:Ex)(A:Option Addr)(c1:Nat)(r:List Tk),v= .int .i64 (isP signs r)/\Hid (ChE C w bx d R one first signs wr x A c1 r)) (λ_ wr=>lenP C wr);case atStart=>exact⟨x,A,c1,l1,rfl,Tz⟩
  case round=>
   obtain⟨x,A,c1,r,rfl,Gv⟩:=hrel;obtain⟨k,GI⟩:=aF (isP signs r);rw[<-GI];have b1:=Gv.box.cell 0;have b2:=Gv.box.cell 1;have b3:=Gv.box.cell 2;have b4:=Gv.box.cell 3;have b5:=Gv.box.cell 4;have b0:=Gv.box0.cell 0;simp only[aD]at b1 b2 b3 b4 b5;have Nf:=aA GI;clear GI;by_cases FV:k < 0
   ·clear b0;have g0:=Gv.box0.frozen 0;have g1:=Gv.box0.frozen 1;have g2:=Gv.box0.frozen 2;have g3:=Gv.box0.frozen 3;have g4:=Gv.box0.frozen 4;have q0:=Gv.box0.cell 0;have q1:=Gv.box0.cell 1;have q2:=Gv.box0.cell 2;have q3:=Gv.box0.cell 3;have q4:=Gv.box0.cell 4;have TA:=Gv.box0.lt;simp only[aD]at q0 q1 q2 q3 q4;have Gh:¬0<=k:=by omega
    have KI:R= .ok x r:=by
     obtain⟨f,hf,_⟩:=Gv.eq;rw[hf];cases f with
     |zero=>rfl
     |succ f=>simp only[zaG];rw[if_pos (by rw[<-Nf.out];exact FV)]
    have Fh:=aA KI;clear KI;go_wp2_with fail;refine bodyPost_ret (v:=exV x.k x.nm x.n A x.args.len c1 x.at_) (by simp[results,Tryz.results285,go_sem,exV,q0,q1,q2,q3,q4,TA]) rfl ?_;rw[Fh.out];unfold ExP;simp only;have G6:Fr (λb=>b=w.heap.size) wr (((((wr.setCell ⟨w.heap.size,0,none⟩ (.int .u8 x.k)).setCell ⟨w.heap.size,1,none⟩ (.string x.nm)).setCell ⟨w.heap.size,2,none⟩ (.int .i64 x.n)).setCell ⟨w.heap.size,3,none⟩ (.slice A x.args.len c1)).setCell ⟨w.heap.size,4,none⟩ (.int .i64 x.at_)):=by
     exact aJ (aJ (aJ (aJ (aJ aH))))
    refine⟨_,rfl,ExVS.fr Gv.val G6 (λb hb=>⟨hb.2.1,λe=>by have:=hb.1;omega⟩) (λb hb=>⟨by have:=hb.1;omega,by have:=hb.2.1;have:=G6.size;omega⟩),?_,?_⟩
    ·refine Gv.pa.fr G6 (λe=>?_) (λe=>?_) (λi hi e=>?_)<;>have:=HL.out<;>omega
    ·exact Fr.high (Fr.high (Fr.high (Fr.high (Fr.high Gv.fr (aL _) _ _) (aL _) _ _) (aL _) _ _) (aL _) _ _) (aL _) _ _
   ·have G9:0<=k:=by omega
    have Mh:=zcK (signs:=signs) (l:=r) (by rw[<-Nf.out];exact G9);have VS:=YQ _ Mh.1;have JG:=zbl C r d wr hk Gv.pa (λht=>VS ht.1);unfold zd5 tkV pP at JG;have Mw:=aA JG;have KD:k<=5:=by
     have:=zh2 signs r;rw[<-Nf.out,<-HN.out]at this;omega
    clear FV JG Mh VS;go_wp2_with fail;refine Mw.mono ?_;rintro _ w5 ⟨rfl,GP,hf⟩;have Lc:bx≠C.P:=by have:=Gv.hbx;have:=HL.1;omega
    have Ja:=Gv.box.fr hf Lc;have RM:=aA GP;have Gk:=aA (Gv.fr.trans hf);have YR:=aA hf;have y1:=Ja.cell 0;have y2:=Ja.cell 1;have y3:=Ja.cell 2;have y4:=Ja.cell 3;have y5:=Ja.cell 4;simp only[aD]at y1 y2 y3 y4 y5;have TC:=aA Ja;have Hp:=λW hW=>JZ W hW r.tail;clear GP hf Ja b0 b1 b2 b3 b4 b5;go_wp2_with fail;cases ho:one r.tail with
    |err e a=>
     have hq:=Hp _ Gk.drew (RM.fr (T:=NoT) (Fr.drew aH) id id (λ_ _=>id));rw[ho]at hq;unfold ExP at hq;simp only at hq;unfold zaf at hq;have SU:=aA hq;have KI:R= .err e a:=by
      obtain⟨f,hf,FR⟩:=Gv.eq;have F6:0 < r.length:=List.length_pos_iff.2 Gv.pa.ne;obtain⟨f,rfl⟩:∃f',f=f'+1:=⟨f - 1,by omega⟩;rw[hf];simp only[zaG];rw[if_neg (by rw[<-Nf.out];omega),ho];rfl
     have Fh:=aA KI;clear hq KI ho Hp
     go_region_dies
     all_goals
      refine SU.mono ?_;rintro _ w7 ⟨rfl,Hs⟩;go_wp2_with fail;exact⟨rfl,by rw[Fh.out];exact⟨rfl,Gk.drew.trans Hs⟩⟩
    |ok y l2=>
     have hq:=Hp _ Gk.drew (RM.fr (T:=NoT) (Fr.drew aH) id id (λ_ _=>id));rw[ho]at hq;unfold ExP at hq;simp only at hq;have SU:=aA hq;have KI:∃f,R=zaG one (twoX first) signs f (twoX first k (hdT r).at_ x y) l2/\l2.length<=f:=by
      obtain⟨f,hf,FR⟩:=Gv.eq;have F6:0 < r.length:=List.length_pos_iff.2 Gv.pa.ne;obtain⟨f,rfl⟩:∃f',f=f'+1:=⟨f - 1,by omega⟩;refine⟨f,?_,?_⟩
      ·rw[hf];simp only[zaG];rw[if_neg (by rw[<-Nf.out];omega),ho,<-Nf.out];rfl
      ·have:=Jy _ _ _ ho;rw[List.length_tail]at this;omega
     have Fh:=aA KI;have HS:=aA (Jy _ _ _ ho);clear hq KI ho Hp
     go_region_with
      (first
       |(go_at_call 305
         with_reducible refine(zms first k (hdT r).at_ bt x.k x.n x.at_ y.k y.n y.at_ x.nm y.nm A A2 x.args.len y.args.len c1 c2 w7 Qf.out.1 Qf.out.2 G9 KD Jo Hd).mono ?_
         rintro _ w8 ⟨g2,rfl,N0,Qd,Qg,GQ⟩;have F3:=YS.fr0 GQ;have q1:=F3.cell 0;have q2:=F3.cell 1;have q3:=F3.cell 2;have q4:=F3.cell 3;have q5:=F3.cell 4;have f1:=F3.frozen 0;have f2:=F3.frozen 1;have f3:=F3.frozen 2;have f4:=F3.frozen 3;have f5:=F3.frozen 4;simp only[aD]at q1 q2 q3 q4 q5;have YT:=aA N0;have VT:=aA (show w7.heap.size<=g2/\g2 < w8.heap.size from⟨Qd,Qg⟩);have SV:=aA GQ;have Rz:=aA F3;clear N0 Qd Qg GQ F3 z1 z2 z3 z4 z5;unfold exV)
       |(with_reducible refine SU.out.mono ?_
         rintro _ w7 ⟨v7,rfl,NZ,Qh,Hs⟩;obtain⟨A2,c2,rfl⟩:=ExVS.parts NZ;have Hh:=(TC.fr (Fr.drew aI) id).fr Hs Lc;have z1:=Hh.cell 0;have z2:=Hh.cell 1;have z3:=Hh.cell 2;have z4:=Hh.cell 3;have z5:=Hh.cell 4;simp only[aD]at z1 z2 z3 z4 z5;have YS:=aA Hh;have Nr:=aA NZ;have Le:=aA Qh;have Fp:=aA Hs;have Ns:=((MI.fr Gk.out Mi).fr (Fr.drew aI) id).fr Hs Mi;have Qf:=aA (show bt < w7.heap.size/\w7.cell? ⟨bt,0,none⟩=some (.int .u8 first)from⟨Ns.lt,Ns.cell 0⟩);clear Hh NZ Qh Hs Ns;unfold exV))
     all_goals(go_wp2_with fail)
     all_goals
      obtain⟨w9,KJ⟩:=aF ((((((w8.setCell ⟨bx,0,none⟩ (.int .u8 (first+k))).setCell ⟨bx,1,none⟩ (.string noB)).setCell ⟨bx,2,none⟩ (.int .i64 0)).setCell ⟨bx,3,none⟩ (.slice (some ⟨g2,0,none⟩) 2 2)).setCell ⟨bx,4,none⟩ (.int .i64 ((hdT r).at_ :Int))));have Nt:=zmt hk HL.out Gv.out Lc YR.out Nr.out Le.out Fp.out YT.out VT.out SV.out Rz.out Fh.out G9 KD Jo Hd w9 KJ;rw[<-KJ];have Nu:=aA Nt;have YU:=aA (show lenP C w9 < lenP C wr from by
       rw[Nt.pa.lenP,Gv.pa.lenP];have h1:=HS.out;have h2:=List.length_pos_iff.2 Gv.pa.ne;rw[List.length_tail]at h1;omega)
      clear KJ Nt q1 q2 q3 q4 q5 f1 f2 f3 f4 f5;refine(Ry _ l2 Nu.fr Nu.pa).mono ?_;rintro _ w10 ⟨rfl,rfl⟩;go_wp2_with fail;go_roundw;case rel=>exact⟨_,_,_,l2,rfl,Nu⟩
      case measure=>exact YU.out
theorem ExP.ways {C:Pcx}{d:Nat}{r:PR Ex}{W w':World}{e:Ending}(h:ExP C d r W e w'):
  (∃(x:Ex)(l:List Tk)(A:Option Addr)(c:Nat),r= .ok x l/\e= .returned (.agg #[.int .u8 x.k,.string x.nm,.int .i64 x.n,.slice A x.args.len c,.int .i64 x.at_])/\ExV w' W.heap.size (exV x.k x.nm x.n A x.args.len c x.at_) x/\PaAt C w' l d/\Fr C.T W w')\/
   ∃c a,r= .err c a/\e= .panicked [{v:= .iface 161 (.agg #[.int .i64 c,.int .i64 a]),recovered:=false}]/\Fr C.T W w':=by
 unfold ExP at h;cases r with
 |err c a=>exact .inr ⟨c,a,rfl,h⟩
 |ok x l=>
  obtain⟨v,rfl,hv,hp,hf⟩:=h;obtain⟨A,c,rfl⟩:=ExVS.parts hv;exact .inl ⟨x,l,A,c,rfl,rfl,hv,hp,hf⟩
theorem zda {C:Pcx}{w WA w7 w9:World}{d rb:Nat}{x:Ex}{l:List Tk}{A:Option Addr}{c:Nat}(hL:C.P < w.heap.size/\C.TB < w.heap.size/\C.W0.heap.size<=w.heap.size)(hA:Fr NoT w WA)(hr:w.heap.size<=rb)(GT:rb < WA.heap.size)
  (hv:ExV w7 WA.heap.size (exV x.k x.nm x.n A x.args.len c x.at_) x) (hp:PaAt C w7 l d) (hf:Fr C.T WA w7)
  (h9:w9=((((w7.setCell ⟨rb,0,none⟩ (.int .u8 x.k)).setCell ⟨rb,1,none⟩ (.string x.nm)).setCell ⟨rb,2,none⟩ (.int .i64 x.n)).setCell ⟨rb,3,none⟩ (.slice A x.args.len c)).setCell ⟨rb,4,none⟩ (.int .i64 x.at_)):
  ExP C d (.ok x l) w (.returned (exV x.k x.nm x.n A x.args.len c x.at_)) w9:=by
 have Gl:Fr (λb=>b=rb) w7 w9:=by rw[h9];exact aJ (aJ (aJ (aJ (aJ aH))))
 have h1:=hA.size;unfold ExP;refine⟨_,rfl,(ExV.fr hv Gl λb h2 h3 e=>?_).low (by omega),hp.fr Gl (λe=>?_) (λe=>?_) (λi hi e=>?_),?_⟩
 ·have e:b=rb:=e;omega
 ·have e:C.P=rb:=e;omega
 ·have e:C.TB=rb:=e;omega
 ·have e:i=rb:=e;omega
 ·rw[h9];have:=hA.any.trans hf;exact Fr.high (Fr.high (Fr.high (Fr.high (Fr.high this (by omega) _ _) (by omega) _ _) (by omega) _ _) (by omega) _ _) (by omega) _ _
def strA (signs:List (List UInt8)):Array Value:=(signs.map λs=>Value.string ⟨s.toArray⟩).toArray
theorem ordA (w:World)(cs ss:Array Value)(W:World)(hW:W=((w.alloc (.cells cs 5)).alloc (.cells ss 9)).drew):Bk W w.heap.size 5 cs/\Bk W (w.heap.size+1) 9 ss/\Fr NoT w W:=by
 subst hW;exact⟨(Bk.new w _ _).alloc _,Bk.new_at _ _ _ (by simp),Fr.drew (((Fr.refl NoT w).alloc _).alloc _)⟩
theorem ordB (w:World)(cs ss:Array Value)(W:World)(hW:W=((w.alloc (.cells ss 9)).alloc (.cells cs 5)).drew):Bk W (w.heap.size+1) 5 cs/\Bk W w.heap.size 9 ss/\Fr NoT w W:=by
 subst hW;exact⟨Bk.new_at _ _ _ (by simp),(Bk.new w _ _).alloc _,Fr.drew (((Fr.refl NoT w).alloc _).alloc _)⟩
theorem zfK (C:Pcx)(one:List Tk->PR Ex)(first:Int)(signs:List (List UInt8))(g:Nat)(fst cap:Array Value)(bt b m:Nat)(l:List Tk)(d:Nat)(w:World)(hk:C.Ok)(h:PaAt C w l d)(Jy:Shr one)
  (hm:m=signs.length) (L6:∀s∈signs,s≠ []) (Gq:signs.length<=3) (N2:Bk w b 9 (strA signs)) (Tx:b≠C.P)
  (MI:Bk w bt 5 #[.int .u8 first]) (Mi:bt≠C.P) (Jo:0<=first) (Hd:first<=20)
  (hent:Enters Tryz.prog g) (Hp:∀W,Fr C.T w W->∀l',PaAt C W l' d->Calls Tryz.prog g (fst++cap) W (ExP C d (one l') W)):
  Calls Tryz.prog 285 #[.pointer (some ⟨C.P,0,none⟩),.func (.func g) fst cap,.func (.func 305) #[] #[.pointer (some ⟨bt,0,none⟩)],.slice (some ⟨b,0,none⟩) m m] w (ExP C d (zaU one (twoX first) signs l) w):=by
 subst hm;exact ziV C one first signs g fst cap bt b _ l d w hk h Jy L6 Gq (λj hj=>by rw[N2.cell j];simp[strA,hj]) N2.lt Tx MI Mi Jo Hd hent Hp
def zdJ (C:Pcx)(n:Nat):Prop:=∀(l:List Tk)(d:Nat)(w:World),d+n=24->PaAt C w l d->Calls Tryz.prog 286 #[.pointer (some ⟨C.P,0,none⟩)] w (ExP C d (zaw n l) w)
def zdB (n:Nat)(l:List Tk):PR Ex:=zaU (zaw n) (twoX 7) mulS l
def sumP (n:Nat)(l:List Tk):PR Ex:=zaU (zdB n) (twoX 5) addS l
theorem ze1 (n:Nat):Shr (zdB n):=zaA (zbr n)
theorem zmu (n:Nat):Shr (sumP n):=zaA (ze1 n)
theorem zj9 (C:Pcx)(n:Nat)(hs:zdJ C n)(l:List Tk)(d pb:Nat)(w:World)(Ga:d+n=24)(hk:C.Ok)(h:PaAt C w l d)(Ju:Bk w pb 162 #[.pointer (some ⟨C.P,0,none⟩)])(Gh:pb≠C.P):
  Calls Tryz.prog 284 #[.pointer (some ⟨pb,0,none⟩)] w (ExP C d (zdB n l) w):=by
 have JI:= @makeF Tryz.prog;have hL:=h.lts;have Gt:=Ju.lt;have KX:pb≠C.P:=Gh;have FF:=Ju.cell 0;simp only[List.getElem?_toArray,List.getElem?_cons_zero]at FF;obtain⟨w1,Hc⟩:=aF (w.alloc (.cells #[.int .u8 0,.string ⟨#[]⟩,.int .i64 0,.slice none 0 0,.int .i64 0] 175));have Hw:w1.heap.size=w.heap.size+1:=by rw[Hc];simp
 have Hd:Fr NoT w w1:=by rw[Hc];exact aH.alloc _
 have hbx:Bk w1 w.heap.size 175 #[.int .u8 0,.string ⟨#[]⟩,.int .i64 0,.slice none 0 0,.int .i64 0]:=by rw[Hc];exact Bk.new _ _ _
 obtain⟨a1,a2,a3⟩:=ordA w1 #[.int .u8 7] (strA mulS) _ rfl;obtain⟨b1,b2,b3⟩:=ordB w1 #[.int .u8 7] (strA mulS) _ rfl;rw[Hw]at a1 a2 b1 b2;have key:∀(W:World)(bt b:Nat),Fr NoT w1 W->Bk W bt 5 #[.int .u8 7]->Bk W b 9 (strA mulS)->w.heap.size < bt->w.heap.size < b->Calls Tryz.prog 285 #[.pointer (some ⟨C.P,0,none⟩),.func (.func 286) #[.pointer (some ⟨C.P,0,none⟩)] #[],.func (.func 305) #[] #[.pointer (some ⟨bt,0,none⟩)],.slice (some ⟨b,0,none⟩) 3 3] W (ExP C d (zdB n l) W):=λW bt b hf h1 h2 h3 h4=>
  zfK C (zaw n) 7 mulS 286 _ _ bt b 3 l d W hk (h.fr (Hd.trans hf) id id λ_ _=>id) (zbr n) rfl (by decide) (by decide) h2 (by omega) h1 (by omega) (by decide) (by decide) (enters_of Tryz.func286 (by kernel_rfl) rfl) λW' _ l' LU=>by
   simpa using hs l' d W' Ga LU
 have fin:∀(WA w7:World)(e:Ending),Fr NoT w1 WA->ExP C d (zdB n l) WA e w7->Fr NoT w WA/\Bk WA w.heap.size 175 #[.int .u8 0,.string ⟨#[]⟩,.int .i64 0,.slice none 0 0,.int .i64 0]:=λWA w7 e hf _=>⟨Hd.trans hf,hbx.fr0 hf⟩;have HA:=aA (key _ _ _ a3 a1 a2 (by omega) (by omega));have HB:=aA (key _ _ _ b3 b1 b2 (by omega) (by omega));have G0:=aA (aG (Hd.trans a3) (hbx.fr0 a3));have Fa:=aA (aG (Hd.trans b3) (hbx.fr0 b3));rw[Hc]at HA HB G0 Fa;have HL:=aA hL;have FG:¬w.heap.size=C.P:=by omega
 have KU:=aA FG;clear key fin Hc Hw Hd hbx a1 a2 a3 b1 b2 b3 hL h hk hs Ju Gh FG;unfold strA mulS at HA HB G0 Fa;simp only[List.map_cons,List.map_nil]at HA HB G0 Fa;go_enter Tryz.func284,Tryz.ntmps284;go_wp2_with fail
 go_region_held2 (λW'=>W'.cell? ⟨pb,0,none⟩=some (.pointer (some ⟨C.P,0,none⟩)))
  (first
   |(with_reducible assumption)
   |(with_reducible refine(Fr.cell (T:=λb=>b=w.heap.size) (w:=w7) (aJ (aJ (aJ (aJ (aJ aH))))) Fc.1 Fc.2).trans Fb)
   |(refine(Fr.cell (T:=NoT) (w:=w) ?_ Gt id).trans FF
     repeat(first|exact aH|refine Fr.alloc ?_ _|refine Fr.drew ?_)))
  (first
   |(go_at_call 287
     refine(zhl _ _).mono ?_;rintro _ wa ⟨rfl,rfl⟩)
   |(go_at_call 285
     with_reducible refine HA.out.mono ?_
     intro e w7 hE;rcases hE.ways with⟨x,r,A,c,hR,rfl,hv,hp,hf⟩|⟨c,a,hR,rfl,hf⟩;rotate_left
     ·exact⟨rfl,by rw[hR];exact⟨rfl,(G0.1.any).trans hf⟩⟩
     have Hh:=G0.2.fr hf KU.out;have q0:=Hh.cell 0;have q1:=Hh.cell 1;have q2:=Hh.cell 2;have q3:=Hh.cell 3;have q4:=Hh.cell 4;have g0:=Hh.frozen 0;have g1:=Hh.frozen 1;have g2:=Hh.frozen 2;have g3:=Hh.frozen 3;have g4:=Hh.frozen 4;have Jp:=Hh.lt;have Fb:=(FF.symm.trans ((G0.1.cell (p:=⟨pb,0,none⟩) Gt id).symm.trans (hf.cell (p:=⟨pb,0,none⟩) (aM Gt G0.1.size) KX).symm)).symm;have Fc:pb < w7.heap.size/\¬pb=w.heap.size:=⟨aM Gt (aK G0.1.size hf.size),by omega⟩;simp only[aD]at q0 q1 q2 q3 q4;have HE:=aA (show ∀w9,w9=((((w7.setCell ⟨w.heap.size,0,none⟩ (.int .u8 x.k)).setCell ⟨w.heap.size,1,none⟩ (.string x.nm)).setCell ⟨w.heap.size,2,none⟩ (.int .i64 x.n)).setCell ⟨w.heap.size,3,none⟩ (.slice A x.args.len c)).setCell ⟨w.heap.size,4,none⟩ (.int .i64 x.at_)->ExP C d (zdB n l) w (.returned (exV x.k x.nm x.n A x.args.len c x.at_)) w9 from λw9 h9=>by
      rw[hR];exact zda HL.out G0.1 (aL _) G0.2.lt hv hp hf h9)
     clear hR hv hp hf Hh)
   |(go_at_call 285
     with_reducible refine HB.out.mono ?_
     intro e w7 hE;rcases hE.ways with⟨x,r,A,c,hR,rfl,hv,hp,hf⟩|⟨c,a,hR,rfl,hf⟩;rotate_left
     ·exact⟨rfl,by rw[hR];exact⟨rfl,(Fa.1.any).trans hf⟩⟩
     have Hh:=Fa.2.fr hf KU.out;have q0:=Hh.cell 0;have q1:=Hh.cell 1;have q2:=Hh.cell 2;have q3:=Hh.cell 3;have q4:=Hh.cell 4;have g0:=Hh.frozen 0;have g1:=Hh.frozen 1;have g2:=Hh.frozen 2;have g3:=Hh.frozen 3;have g4:=Hh.frozen 4;have Jp:=Hh.lt;have Fb:=(FF.symm.trans ((Fa.1.cell (p:=⟨pb,0,none⟩) Gt id).symm.trans (hf.cell (p:=⟨pb,0,none⟩) (aM Gt Fa.1.size) KX).symm)).symm;have Fc:pb < w7.heap.size/\¬pb=w.heap.size:=⟨aM Gt (aK Fa.1.size hf.size),by omega⟩;simp only[aD]at q0 q1 q2 q3 q4;have HE:=aA (show ∀w9,w9=((((w7.setCell ⟨w.heap.size,0,none⟩ (.int .u8 x.k)).setCell ⟨w.heap.size,1,none⟩ (.string x.nm)).setCell ⟨w.heap.size,2,none⟩ (.int .i64 x.n)).setCell ⟨w.heap.size,3,none⟩ (.slice A x.args.len c)).setCell ⟨w.heap.size,4,none⟩ (.int .i64 x.at_)->ExP C d (zdB n l) w (.returned (exV x.k x.nm x.n A x.args.len c x.at_)) w9 from λw9 h9=>by
      rw[hR];exact zda HL.out Fa.1 (aL _) Fa.2.lt hv hp hf h9)
     clear hR hv hp hf Hh))
 all_goals
  go_wp2_with fail;exact bodyPost_ret (v:=exV x.k x.nm x.n A x.args.len c x.at_) (by simp[results,Tryz.results284,go_sem,exV,q0,q1,q2,q3,q4,Jp]) rfl (HE _ rfl)
-- sum
theorem zoz (C:Pcx)(n:Nat)(hs:zdJ C n)(l:List Tk)(d pb fb:Nat)(w:World)(Ga:d+n=24)(hk:C.Ok)(h:PaAt C w l d)(Ju:Bk w pb 162 #[.pointer (some ⟨C.P,0,none⟩)])(Gh:pb≠C.P)(Ld:Bk w fb 328 #[.func (.func 284) #[] #[.pointer (some ⟨pb,0,none⟩)]])(Qi:fb≠C.P):
  Calls Tryz.prog 288 #[.pointer (some ⟨pb,0,none⟩),.pointer (some ⟨fb,0,none⟩)] w (ExP C d (sumP n l) w):=by
 have JI:= @makeF Tryz.prog;have hL:=h.lts;have Gt:=Ju.lt;have FR:=Ld.lt;have RA:fb≠C.P:=Qi;have Ng:=Ld.cell 0;have KX:pb≠C.P:=Gh;have FF:=Ju.cell 0;simp only[List.getElem?_toArray,List.getElem?_cons_zero]at FF Ng;obtain⟨w1,Hc⟩:=aF (w.alloc (.cells #[.int .u8 0,.string ⟨#[]⟩,.int .i64 0,.slice none 0 0,.int .i64 0] 175));have Hw:w1.heap.size=w.heap.size+1:=by rw[Hc];simp
 have Hd:Fr NoT w w1:=by rw[Hc];exact aH.alloc _
 have hbx:Bk w1 w.heap.size 175 #[.int .u8 0,.string ⟨#[]⟩,.int .i64 0,.slice none 0 0,.int .i64 0]:=by rw[Hc];exact Bk.new _ _ _
 obtain⟨a1,a2,a3⟩:=ordA w1 #[.int .u8 5] (strA addS) _ rfl;obtain⟨b1,b2,b3⟩:=ordB w1 #[.int .u8 5] (strA addS) _ rfl;rw[Hw]at a1 a2 b1 b2;have key:∀(W:World)(bt b:Nat),Fr NoT w1 W->Bk W bt 5 #[.int .u8 5]->Bk W b 9 (strA addS)->w.heap.size < bt->w.heap.size < b->Calls Tryz.prog 285 #[.pointer (some ⟨C.P,0,none⟩),.func (.func 284) #[] #[.pointer (some ⟨pb,0,none⟩)],.func (.func 305) #[] #[.pointer (some ⟨bt,0,none⟩)],.slice (some ⟨b,0,none⟩) 2 2] W (ExP C d (sumP n l) W):=λW bt b hf h1 h2 h3 h4=>
  zfK C (zdB n) 5 addS 284 _ _ bt b 2 l d W hk (h.fr (Hd.trans hf) id id λ_ _=>id) (ze1 n) rfl (by decide) (by decide) h2 (by omega) h1 (by omega) (by decide) (by decide) (enters_of Tryz.func284 (by kernel_rfl) rfl) λW' Fl l' LU=>by
   simpa using zj9 C n hs l' d pb W' Ga hk LU (((Ju.fr0 (Hd.trans hf)).fr Fl Gh)) Gh
 have fin:∀(WA w7:World)(e:Ending),Fr NoT w1 WA->ExP C d (sumP n l) WA e w7->Fr NoT w WA/\Bk WA w.heap.size 175 #[.int .u8 0,.string ⟨#[]⟩,.int .i64 0,.slice none 0 0,.int .i64 0]:=λWA w7 e hf _=>⟨Hd.trans hf,hbx.fr0 hf⟩;have HA:=aA (key _ _ _ a3 a1 a2 (by omega) (by omega));have HB:=aA (key _ _ _ b3 b1 b2 (by omega) (by omega));have G0:=aA (aG (Hd.trans a3) (hbx.fr0 a3));have Fa:=aA (aG (Hd.trans b3) (hbx.fr0 b3));rw[Hc]at HA HB G0 Fa;have HL:=aA hL;have FG:¬w.heap.size=C.P:=by omega
 have KU:=aA FG;clear key fin Hc Hw Hd hbx a1 a2 a3 b1 b2 b3 hL h hk hs Ju Gh FG Ld Qi;unfold strA addS at HA HB G0 Fa;simp only[List.map_cons,List.map_nil]at HA HB G0 Fa;go_enter Tryz.func288,Tryz.ntmps288;go_wp2_with fail
 go_region_held2 (λW'=>W'.cell? ⟨pb,0,none⟩=some (.pointer (some ⟨C.P,0,none⟩))/\W'.cell? ⟨fb,0,none⟩=some (.func (.func 284) #[] #[.pointer (some ⟨pb,0,none⟩)]))
  (first
   |(refine⟨?_,?_⟩<;>with_reducible assumption)
   |(with_reducible refine⟨(Fr.cell (T:=λb=>b=w.heap.size) (w:=w7) (aJ (aJ (aJ (aJ (aJ aH))))) Fc.1 Fc.2).trans Fb,(Fr.cell (T:=λb=>b=w.heap.size) (w:=w7) (aJ (aJ (aJ (aJ (aJ aH))))) Lf.1 Lf.2).trans RB⟩)
   |(refine⟨(Fr.cell (T:=NoT) (w:=w) ?_ Gt id).trans FF,(Fr.cell (T:=NoT) (w:=w) ?_ FR id).trans Ng⟩<;>
     repeat(first|exact aH|refine Fr.alloc ?_ _|refine Fr.drew ?_)))
  (first
   |(go_at_call 287
     refine(zhl _ _).mono ?_;rintro _ wa ⟨rfl,rfl⟩)
   |(go_at_call 285
     with_reducible refine HA.out.mono ?_
     intro e w7 hE;rcases hE.ways with⟨x,r,A,c,hR,rfl,hv,hp,hf⟩|⟨c,a,hR,rfl,hf⟩;rotate_left
     ·exact⟨rfl,by rw[hR];exact⟨rfl,(G0.1.any).trans hf⟩⟩
     have Hh:=G0.2.fr hf KU.out;have q0:=Hh.cell 0;have q1:=Hh.cell 1;have q2:=Hh.cell 2;have q3:=Hh.cell 3;have q4:=Hh.cell 4;have g0:=Hh.frozen 0;have g1:=Hh.frozen 1;have g2:=Hh.frozen 2;have g3:=Hh.frozen 3;have g4:=Hh.frozen 4;have Jp:=Hh.lt;have Fb:=(FF.symm.trans ((G0.1.cell (p:=⟨pb,0,none⟩) Gt id).symm.trans (hf.cell (p:=⟨pb,0,none⟩) (aM Gt G0.1.size) KX).symm)).symm;have RB:=(Ng.symm.trans ((G0.1.cell (p:=⟨fb,0,none⟩) FR id).symm.trans (hf.cell (p:=⟨fb,0,none⟩) (aM FR G0.1.size) RA).symm)).symm;have Fc:pb < w7.heap.size/\¬pb=w.heap.size:=⟨aM Gt (aK G0.1.size hf.size),by omega⟩;have Lf:fb < w7.heap.size/\¬fb=w.heap.size:=⟨aM FR (aK G0.1.size hf.size),by omega⟩;simp only[aD]at q0 q1 q2 q3 q4;have HE:=aA (show ∀w9,w9=((((w7.setCell ⟨w.heap.size,0,none⟩ (.int .u8 x.k)).setCell ⟨w.heap.size,1,none⟩ (.string x.nm)).setCell ⟨w.heap.size,2,none⟩ (.int .i64 x.n)).setCell ⟨w.heap.size,3,none⟩ (.slice A x.args.len c)).setCell ⟨w.heap.size,4,none⟩ (.int .i64 x.at_)->ExP C d (sumP n l) w (.returned (exV x.k x.nm x.n A x.args.len c x.at_)) w9 from λw9 h9=>by
      rw[hR];exact zda HL.out G0.1 (aL _) G0.2.lt hv hp hf h9)
     clear hR hv hp hf Hh)
   |(go_at_call 285
     with_reducible refine HB.out.mono ?_
     intro e w7 hE;rcases hE.ways with⟨x,r,A,c,hR,rfl,hv,hp,hf⟩|⟨c,a,hR,rfl,hf⟩;rotate_left
     ·exact⟨rfl,by rw[hR];exact⟨rfl,(Fa.1.any).trans hf⟩⟩
     have Hh:=Fa.2.fr hf KU.out;have q0:=Hh.cell 0;have q1:=Hh.cell 1;have q2:=Hh.cell 2;have q3:=Hh.cell 3;have q4:=Hh.cell 4;have g0:=Hh.frozen 0;have g1:=Hh.frozen 1;have g2:=Hh.frozen 2;have g3:=Hh.frozen 3;have g4:=Hh.frozen 4;have Jp:=Hh.lt;have Fb:=(FF.symm.trans ((Fa.1.cell (p:=⟨pb,0,none⟩) Gt id).symm.trans (hf.cell (p:=⟨pb,0,none⟩) (aM Gt Fa.1.size) KX).symm)).symm;have RB:=(Ng.symm.trans ((Fa.1.cell (p:=⟨fb,0,none⟩) FR id).symm.trans (hf.cell (p:=⟨fb,0,none⟩) (aM FR Fa.1.size) RA).symm)).symm;have Fc:pb < w7.heap.size/\¬pb=w.heap.size:=⟨aM Gt (aK Fa.1.size hf.size),by omega⟩;have Lf:fb < w7.heap.size/\¬fb=w.heap.size:=⟨aM FR (aK Fa.1.size hf.size),by omega⟩;simp only[aD]at q0 q1 q2 q3 q4;have HE:=aA (show ∀w9,w9=((((w7.setCell ⟨w.heap.size,0,none⟩ (.int .u8 x.k)).setCell ⟨w.heap.size,1,none⟩ (.string x.nm)).setCell ⟨w.heap.size,2,none⟩ (.int .i64 x.n)).setCell ⟨w.heap.size,3,none⟩ (.slice A x.args.len c)).setCell ⟨w.heap.size,4,none⟩ (.int .i64 x.at_)->ExP C d (sumP n l) w (.returned (exV x.k x.nm x.n A x.args.len c x.at_)) w9 from λw9 h9=>by
      rw[hR];exact zda HL.out Fa.1 (aL _) Fa.2.lt hv hp hf h9)
     clear hR hv hp hf Hh))
 all_goals
  go_wp2_with fail;exact bodyPost_ret (v:=exV x.k x.nm x.n A x.args.len c x.at_) (by simp[results,Tryz.results288,go_sem,exV,q0,q1,q2,q3,q4,Jp]) rfl (HE _ rfl)
-- expr
theorem zfL (C:Pcx)(n:Nat)(hs:zdJ C n)(l:List Tk)(d:Nat)(w:World)(Ga:d+n=24)(hk:C.Ok)(h:PaAt C w l d):
  Calls Tryz.prog 247 #[.pointer (some ⟨C.P,0,none⟩)] w (ExP C d (zaO n l) w):=by
 have JI:= @makeF Tryz.prog;have hL:=h.lts;obtain⟨w1,Hc⟩:=aF (((w.alloc (.cells #[.pointer (some ⟨C.P,0,none⟩)] 162)).alloc (.cells #[.int .u8 0,.string ⟨#[]⟩,.int .i64 0,.slice none 0 0,.int .i64 0] 175)).alloc (.cells #[.func (.func 284) #[] #[.pointer (some ⟨w.heap.size,0,none⟩)]] 328));have Hw:w1.heap.size=w.heap.size+3:=by rw[Hc];simp
 have Hd:Fr NoT w w1:=by rw[Hc];exact((aH.alloc _).alloc _).alloc _
 have GD:Bk w1 w.heap.size 162 #[.pointer (some ⟨C.P,0,none⟩)]:=by rw[Hc];exact((Bk.new _ _ _).alloc _).alloc _
 have hbx:Bk w1 (w.heap.size+1) 175 #[.int .u8 0,.string ⟨#[]⟩,.int .i64 0,.slice none 0 0,.int .i64 0]:=by rw[Hc];exact(Bk.new_at _ _ _ (by simp)).alloc _
 have Jw:Bk w1 (w.heap.size+2) 328 #[.func (.func 284) #[] #[.pointer (some ⟨w.heap.size,0,none⟩)]]:=by rw[Hc];exact Bk.new_at _ _ _ (by simp)
 obtain⟨a1,a2,a3⟩:=ordA w1 #[.int .u8 10] (strA shS) _ rfl;obtain⟨b1,b2,b3⟩:=ordB w1 #[.int .u8 10] (strA shS) _ rfl;rw[Hw]at a1 a2 b1 b2;have key:∀(W:World)(bt b:Nat),Fr NoT w1 W->Bk W bt 5 #[.int .u8 10]->Bk W b 9 (strA shS)->w.heap.size < bt->w.heap.size < b->Calls Tryz.prog 285 #[.pointer (some ⟨C.P,0,none⟩),.func (.func 288) #[] #[.pointer (some ⟨w.heap.size,0,none⟩),.pointer (some ⟨w.heap.size+1+1,0,none⟩)],.func (.func 305) #[] #[.pointer (some ⟨bt,0,none⟩)],.slice (some ⟨b,0,none⟩) 2 2] W (ExP C d (zaO n l) W):=λW bt b hf h1 h2 h3 h4=>
  zfK C (sumP n) 10 shS 288 _ _ bt b 2 l d W hk (h.fr (Hd.trans hf) id id λ_ _=>id) (zmu n) rfl (by decide) (by decide) h2 (by omega) h1 (by omega) (by decide) (by decide) (enters_of Tryz.func288 (by kernel_rfl) rfl) λW' Fl l' LU=>by
   simpa using zoz C n hs l' d w.heap.size (w.heap.size+2) W' Ga hk LU ((GD.fr0 hf).fr Fl (λe=>by have e:w.heap.size=C.P:=e;omega)) (by omega) ((Jw.fr0 hf).fr Fl (λe=>by have e:w.heap.size+2=C.P:=e;omega)) (by omega)
 have HA:=aA (key _ _ _ a3 a1 a2 (by omega) (by omega));have HB:=aA (key _ _ _ b3 b1 b2 (by omega) (by omega));have G0:=aA (aG (Hd.trans a3) (aG (hbx.fr0 a3) (GD.fr0 a3)));have Fa:=aA (aG (Hd.trans b3) (aG (hbx.fr0 b3) (GD.fr0 b3)));have FF:=GD.cell 0;have Gt:=GD.lt;simp only[List.getElem?_toArray,List.getElem?_cons_zero]at FF;rw[Hc]at HA HB G0 Fa FF Gt;have HL:=aA hL;have FG:¬w.heap.size+1=C.P:=by omega
 have KU:=aA FG;have KX:¬w.heap.size=C.P:=by omega
 clear key Hc Hw Hd hbx GD Jw a1 a2 a3 b1 b2 b3 hL h hk hs FG;unfold strA shS at HA HB G0 Fa;simp only[List.map_cons,List.map_nil]at HA HB G0 Fa;go_enter Tryz.func247,Tryz.ntmps247;go_wp2_with fail
 go_region_held2 (λW'=>W'.cell? ⟨w.heap.size,0,none⟩=some (.pointer (some ⟨C.P,0,none⟩)))
  (first
   |(with_reducible assumption)
   |(with_reducible refine(Fr.cell (T:=λb=>b=w.heap.size+1) (w:=w7) (aJ (aJ (aJ (aJ (aJ aH))))) Fc.1 Fc.2).trans Fb)
   |(refine(Fr.cell (T:=NoT) ?_ Gt id).trans FF
     repeat(first|exact aH|refine Fr.alloc ?_ _|refine Fr.drew ?_)))
  (first
   |(go_at_call 287
     refine(zhl _ _).mono ?_;rintro _ wa ⟨rfl,rfl⟩)
   |(go_at_call 285
     with_reducible refine HA.out.mono ?_
     intro e w7 hE;rcases hE.ways with⟨x,r,A,c,hR,rfl,hv,hp,hf⟩|⟨c,a,hR,rfl,hf⟩;rotate_left
     ·exact⟨rfl,by rw[hR];exact⟨rfl,(G0.1.any).trans hf⟩⟩
     have Hh:=G0.2.1.fr hf KU.out;have q0:=Hh.cell 0;have q1:=Hh.cell 1;have q2:=Hh.cell 2;have q3:=Hh.cell 3;have q4:=Hh.cell 4;have g0:=Hh.frozen 0;have g1:=Hh.frozen 1;have g2:=Hh.frozen 2;have g3:=Hh.frozen 3;have g4:=Hh.frozen 4;have Jp:=Hh.lt;have Fb:=(G0.2.2.fr hf KX).cell 0;simp only[List.getElem?_toArray,List.getElem?_cons_zero]at Fb;have Fc:w.heap.size < w7.heap.size/\¬w.heap.size=w.heap.size+1:=⟨(G0.2.2.fr hf KX).lt,by omega⟩;simp only[aD]at q0 q1 q2 q3 q4;have HE:=aA (show ∀w9,w9=((((w7.setCell ⟨w.heap.size+1,0,none⟩ (.int .u8 x.k)).setCell ⟨w.heap.size+1,1,none⟩ (.string x.nm)).setCell ⟨w.heap.size+1,2,none⟩ (.int .i64 x.n)).setCell ⟨w.heap.size+1,3,none⟩ (.slice A x.args.len c)).setCell ⟨w.heap.size+1,4,none⟩ (.int .i64 x.at_)->ExP C d (zaO n l) w (.returned (exV x.k x.nm x.n A x.args.len c x.at_)) w9 from λw9 h9=>by
      rw[hR];exact zda HL.out G0.1 (by omega) G0.2.1.lt hv hp hf h9)
     clear hR hv hp hf Hh)
   |(go_at_call 285
     with_reducible refine HB.out.mono ?_
     intro e w7 hE;rcases hE.ways with⟨x,r,A,c,hR,rfl,hv,hp,hf⟩|⟨c,a,hR,rfl,hf⟩;rotate_left
     ·exact⟨rfl,by rw[hR];exact⟨rfl,(Fa.1.any).trans hf⟩⟩
     have Hh:=Fa.2.1.fr hf KU.out;have q0:=Hh.cell 0;have q1:=Hh.cell 1;have q2:=Hh.cell 2;have q3:=Hh.cell 3;have q4:=Hh.cell 4;have g0:=Hh.frozen 0;have g1:=Hh.frozen 1;have g2:=Hh.frozen 2;have g3:=Hh.frozen 3;have g4:=Hh.frozen 4;have Jp:=Hh.lt;have Fb:=(Fa.2.2.fr hf KX).cell 0;simp only[List.getElem?_toArray,List.getElem?_cons_zero]at Fb;have Fc:w.heap.size < w7.heap.size/\¬w.heap.size=w.heap.size+1:=⟨(Fa.2.2.fr hf KX).lt,by omega⟩;simp only[aD]at q0 q1 q2 q3 q4;have HE:=aA (show ∀w9,w9=((((w7.setCell ⟨w.heap.size+1,0,none⟩ (.int .u8 x.k)).setCell ⟨w.heap.size+1,1,none⟩ (.string x.nm)).setCell ⟨w.heap.size+1,2,none⟩ (.int .i64 x.n)).setCell ⟨w.heap.size+1,3,none⟩ (.slice A x.args.len c)).setCell ⟨w.heap.size+1,4,none⟩ (.int .i64 x.at_)->ExP C d (zaO n l) w (.returned (exV x.k x.nm x.n A x.args.len c x.at_)) w9 from λw9 h9=>by
      rw[hR];exact zda HL.out Fa.1 (by omega) Fa.2.1.lt hv hp hf h9)
     clear hR hv hp hf Hh))
 all_goals
  go_wp2_with fail;exact bodyPost_ret (v:=exV x.k x.nm x.n A x.args.len c x.at_) (by simp[results,Tryz.results247,go_sem,exV,q0,q1,q2,q3,q4,Jp]) rfl (HE _ rfl)
