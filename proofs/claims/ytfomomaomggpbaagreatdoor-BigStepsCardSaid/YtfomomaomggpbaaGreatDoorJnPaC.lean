/- parse: chain, of expressions. -/
import Derived.Test.YtfomomaomggpbaaGreatDoorJnPa
import Derived.Deep.RegionHeld2
set_option linter.all false
set_option maxHeartbeats 3200000
set_option maxRecDepth 100000
namespace Go.Proofs.YtfomomaomggpbaaGreatDoor
open Go.RowKit Go.Shelf
theorem zdU (x:ByteArray):∀(zs:List ByteArray)(i:Nat),Lib.idxFromS zs x i<=(i+zs.length:Nat)
 | [],i=>by simp[Lib.idxFromS]<;>omega
 |z::zs,i=>by
  have:=zdU x zs (i+1);simp only[Lib.idxFromS];split
  ·simp;omega
  ·simp at this ⊢;omega
theorem zhj (signs:List (List UInt8))(l:List Tk):isP signs l<=signs.length:=by
 unfold isP;split
 ·omega
 ·have:=zdU (txt (hdT l)) (signs.map λs=>(⟨s.toArray⟩:ByteArray)) 0;simpa[Lib.idxOfS]using this
def lenP (C:Pcx)(w:World):Nat:=match w.cell? ⟨C.P,0,none⟩with|some (.slice _ m _)=>m|_=>0
theorem PaAt.lenP {C:Pcx}{w:World}{l:List Tk}{d:Nat}(h:PaAt C w l d):lenP C w=l.length:=by
 obtain⟨j,cap,m,GK,Jq,hl,Ln,FS,hb,p0,_⟩:=h.cells;unfold Go.Proofs.YtfomomaomggpbaaGreatDoor.lenP;rw[p0,GK]
def NewX (L bx:Nat)(w:World):Nat->Prop:=λb=>L<=b/\b < w.heap.size/\b≠bx
structure ChE (C:Pcx)(w:World)(bx d:Nat)(R:PR Ex)(one:List Tk->PR Ex)(first:Int)(signs:List (List UInt8))(wr:World)(x:Ex)(A:Option Addr)(c:Nat)(l:List Tk):Prop where
 eq:∃f,R=zaH one (twoX first) signs f x l/\l.length<=f
 box0:Bk wr w.heap.size 175 #[.int .u8 0,.string noB,.int .i64 0,.slice none 0 0,.int .i64 0]
 box:Bk wr bx 175 #[.int .u8 x.k,.string x.nm,.int .i64 x.n,.slice A x.args.len c,.int .i64 x.at_]
 hbx:w.heap.size+1<=bx
 val:ExVS wr (NewX (w.heap.size+1) bx wr) (exV x.k x.nm x.n A x.args.len c x.at_) x
 pa:PaAt C wr l d
 fr:Fr C.T w wr
theorem ExVS.parts {w:World}{S:Nat->Prop}{v:Value}{x:Ex}(h:ExVS w S v x):∃A c,v=exV x.k x.nm x.n A x.args.len c x.at_:=by
 obtain⟨_,_,_,A,c,e,_⟩:=h;exact⟨A,c,e⟩
theorem zlm {C:Pcx}{w wr w5 w7 w8:World}{bx d:Nat}{R:PR Ex}{one:List Tk->PR Ex}{first:Int}{signs:List (List UInt8)}{x y:Ex}{A A2:Option Addr}{c1 c2:Nat}{r l2:List Tk}{k:Int}{g2:Nat}
  (hk:C.Ok) (hL:C.P < w.heap.size/\C.TB < w.heap.size/\C.W0.heap.size<=w.heap.size) (Gr:ChE C w bx d R one first signs wr x A c1 r) (KP:bx≠C.P) (Hj:Fr C.T wr w5) (NE:ExV w7 w5.drew.heap.size (exV y.k y.nm y.n A2 y.args.len c2 y.at_) y) (GY:PaAt C w7 l2 d) (Hp:Fr C.T w5.drew w7)
  (PE:Bk w8 g2 175 #[.int .u8 x.k,.string x.nm,.int .i64 x.n,.slice A x.args.len c1,.int .i64 x.at_,.int .u8 y.k,.string y.nm,.int .i64 y.n,.slice A2 y.args.len c2,.int .i64 y.at_])
  (PF:w7.heap.size<=g2/\g2 < w8.heap.size) (GF:Fr NoT w7 w8) (FM:Bk w8 bx 175 #[.int .u8 x.k,.string x.nm,.int .i64 x.n,.slice A x.args.len c1,.int .i64 x.at_])
  (Ks:∃f,R=zaH one (twoX first) signs f (twoX first k (hdT r).at_ x y) l2/\l2.length<=f) (Fz:0<=k) (Km:k<=5) (Jc:0<=first) (Hg:first<=20) (w9:World)
  (LK:w9=(((((w8.setCell ⟨bx,0,none⟩ (.int .u8 (first+k))).setCell ⟨bx,1,none⟩ (.string noB)).setCell ⟨bx,2,none⟩ (.int .i64 0)).setCell ⟨bx,3,none⟩ (.slice (some ⟨g2,0,none⟩) 2 2)).setCell ⟨bx,4,none⟩ (.int .i64 ((hdT r).at_ :Int)))):
  ChE C w bx d R one first signs w9 (twoX first k (hdT r).at_ x y) (some ⟨g2,0,none⟩) 2 l2:=by
 have Gk:Fr (λb=>b=bx) w8 w9:=by rw[LK];exact Fr.own (Fr.own (Fr.own (Fr.own (Fr.own (Fr.refl _ _) _ _) _ _) _ _) _ _) _ _
 have Ll:bx < wr.heap.size:=Gr.box.lt;have Uq:=Gr.fr.size;have Rc:=Hj.size;have NF:w5.heap.size<=w7.heap.size:=Hp.size;have WY:=GF.size;have Po:=Gk.size;have Gw:=Gr.hbx;have hT:∀b,C.T b->b=C.P:=λ_ h=>h;have FX:Fr (λb=>b=C.P\/b=bx) wr w9:=
  (((Hj.drew.mono λi _ h=>Or.inl (hT i h)).trans (Hp.mono λi _ h=>Or.inl (hT i h))).trans GF.any).trans (Gk.mono λi _ h=>Or.inr h)
 have Mt:Fr (λb=>b=bx) w7 w9:=GF.any.trans Gk;have Hh:in64 ((hdT r).at_ :Int):=by
  obtain⟨j,cap,e,_⟩:=Gr.pa.at_;have:=hk.pos _ (List.mem_of_getElem? (zaI e Gr.pa.ne).1);unfold in64;omega
 obtain⟨x1,x2,x3,Ax,cx,ex,Ju⟩:=Gr.val;obtain⟨y1,y2,y3,Ay,cy,ey,U4⟩:=NE;simp only[exV,Value.agg.injEq,Array.mk.injEq,List.cons.injEq,Value.slice.injEq,true_and,and_true]at ex ey;obtain⟨rfl,rfl⟩:=ex;obtain⟨rfl,rfl⟩:=ey;refine⟨Ks,?_,?_,Gr.hbx,?_,?_,?_⟩
 ·exact(Gr.box0.fr FX (λe=>by
   rcases e with e|e<;>omega))
 ·rw[LK];have:=((((FM.set_ 0 (.int .u8 (first+k))).set_ 1 (.string noB)).set_ 2 (.int .i64 0)).set_ 3 (.slice (some ⟨g2,0,none⟩) 2 2)).set_ 4 (.int .i64 ((hdT r).at_ :Int));have e:Bk (((((w8.setCell ⟨bx,0,none⟩ (.int .u8 (first+k))).setCell ⟨bx,1,none⟩ (.string noB)).setCell ⟨bx,2,none⟩ (.int .i64 0)).setCell ⟨bx,3,none⟩ (.slice (some ⟨g2,0,none⟩) 2 2)).setCell ⟨bx,4,none⟩ (.int .i64 ((hdT r).at_ :Int))) bx 175 #[.int .u8 (first+k),.string noB,.int .i64 0,.slice (some ⟨g2,0,none⟩) 2 2,.int .i64 ((hdT r).at_ :Int)]:=by simpa using this
  exact e
 ·refine⟨by show in8 (first+k);unfold in8;omega,by show in64 0;unfold in64;omega,Hh,some ⟨g2,0,none⟩,2,rfl,lrq 2,sl2,λ_=>⟨g2,0,rfl,?_⟩⟩;refine zjd (PE.fr Gk (λe=>by omega)) ⟨by omega,by omega,by omega⟩ ⟨x1,x2,x3⟩ ⟨y1,y2,y3⟩ (Ju.imp λ_ _ h=>?_) (U4.imp λ_ _ h=>?_)
  ·refine ExR.more (λb hb=>⟨hb.1,by have:=hb.2.1;omega,hb.2.2⟩) (ExR.keep (FX.same λb hb=>⟨hb.2.1,λe=>?_⟩) h);rcases e with e|e
   ·have:=hb.1;omega
   ·exact hb.2.2 e
  ·refine ExR.more (λb hb=>⟨?_,?_,?_⟩) (ExR.keep (Mt.same λb hb=>⟨hb.2,λe=>?_⟩) h);all_goals
    have h1:w5.heap.size<=b:=hb.1;have h2:b < w7.heap.size:=hb.2
    first|omega|(show b < w9.heap.size;omega)|(show w.heap.size+1<=b;omega)
 ·refine GY.fr Mt (λe=>KP e.symm) (λe=>?_) (λi hi e=>?_)
  ·omega
  ·omega
 ·rw[LK];have:=((Gr.fr.trans Hj).drew.trans Hp).trans GF.any;exact Fr.high (Fr.high (Fr.high (Fr.high (Fr.high this (by omega) _ _) (by omega) _ _) (by omega) _ _) (by omega) _ _) (by omega) _ _
theorem zh7 (C:Pcx)(one:List Tk->PR Ex)(first:Int)(signs:List (List UInt8))(g:Nat)(fst cap:Array Value)(bt b c:Nat)(l:List Tk)(d:Nat)(w:World)(hk:C.Ok)(h:PaAt C w l d)(Jm:Shr one)
  (LJ:∀s∈signs,s≠ []) (Fu:signs.length<=3) (hc:∀j,j < signs.length->w.cell? ⟨b,j,none⟩=some (.string ⟨(signs.getD j []).toArray⟩)) (Ll:b < w.heap.size) (SR:b≠C.P)
  (Mu:Bk w bt 5 #[.int .u8 first]) (LZ:bt≠C.P) (Jc:0<=first) (Hg:first<=20)
  (hent:Enters Tryz.prog g) (GM:∀W,Fr C.T w W->∀l',PaAt C W l' d->Calls Tryz.prog g (fst++cap) W (ExP C d (one l') W)):
  Calls Tryz.prog 285 #[pP C,.func (.func g) fst cap,.func (.func 305) #[] #[.pointer (some ⟨bt,0,none⟩)],.slice (some ⟨b,0,none⟩) signs.length c] w (ExP C d (zaT one (twoX first) signs l) w):=by
 obtain⟨R,hR⟩:=nmq (zaT one (twoX first) signs l);rw[<-hR];have HR:=hdq hR;have H0:=hdq h;have HL:=hdq h.lts;have JF:=hdq GM;obtain⟨n,hn⟩:=nmq signs.length;have HC:=hdq hc;have XL:=hdq LJ;have HN:=hdq hn;rw[<-hn]at Fu ⊢;unfold Enters at hent;have h2:=h.alloc (.cells #[.int .u8 0,.string ⟨#[]⟩,.int .i64 0,.slice none 0 0,.int .i64 0] 175);have H2:=hdq h2;clear hR h GM hc LJ hn h2;cases ho:one l with
 |err e a=>
  have hq:=JF _ ((Fr.refl C.T w).alloc (.cells #[.int .u8 0,.string ⟨#[]⟩,.int .i64 0,.slice none 0 0,.int .i64 0] 175)) l H2.out;rw[ho]at hq;have PG:R= .err e a:=by rw[HR.out];unfold zaT;rw[ho];rfl
  rw[PG];unfold ExP at hq ⊢;simp only at hq ⊢;unfold zae pP at*;have HQ:=hdq hq;clear hq ho PG;go_enter Tryz.func285,Tryz.ntmps285;go_wp2_with fail;try simp only[Array.append_empty]
  refine HQ.mono ?_;rintro _ w2 ⟨rfl,hf⟩;go_wp2_with fail;exact⟨rfl,rfl,((Fr.refl _ _).alloc _).trans hf⟩
 |ok x l1=>
  have hq:=JF _ ((Fr.refl C.T w).alloc (.cells #[.int .u8 0,.string ⟨#[]⟩,.int .i64 0,.slice none 0 0,.int .i64 0] 175)) l H2.out;rw[ho]at hq;have PG:R=zaH one (twoX first) signs l1.length x l1:=by rw[HR.out];unfold zaT;rw[ho];rfl
  have SS:=hdq PG;unfold ExP at hq;simp only at hq;unfold pP at*;have HQ:=hdq hq;clear hq ho PG;go_enter Tryz.func285,Tryz.ntmps285;go_wp2_with fail;try simp only[Array.append_empty]
  refine HQ.mono ?_;rintro _ w2 ⟨v,rfl,hv,GI,hf⟩;obtain⟨A,c1,rfl⟩:=ExVS.parts hv;have Gr:ChE C w w2.heap.size d R one first signs (w2.alloc (.cells #[.int .u8 x.k,.string x.nm,.int .i64 x.n,.slice A x.args.len c1,.int .i64 x.at_] 175)) x A c1 l1:=by
   have hs:=hf.size;rw[World.size_alloc]at hs;refine⟨⟨_,SS.out,lrq _⟩,?_,Bk.new _ _ _,hs,?_,GI.alloc _,(((Fr.refl _ _).alloc _).trans hf).alloc _⟩
   ·exact((Bk.new w _ _).fr hf (λe=>by have e:w.heap.size=C.P:=e;have:=HL.1;omega)).alloc _
   ·refine ExVS.fr (T:=NoT) hv ((Fr.refl _ _).alloc _) (λb hb=>⟨hb.2,id⟩) λb hb=>?_;have h1:=hb.1;have h2:=hb.2;rw[World.size_alloc]at h1;exact⟨h1,by rw[World.size_alloc];omega,by omega⟩
  obtain⟨bx,hbx⟩:=nmq w2.heap.size;obtain⟨w3,GL⟩:=nmq (w2.alloc (.cells #[.int .u8 x.k,.string x.nm,.int .i64 x.n,.slice A x.args.len c1,.int .i64 x.at_] 175));rw[<-hbx,<-GL]at Gr;unfold exV;have ST:=hdq Gr;have JC:=hdq hbx;have L0:=hdq GL;have U5:∀W l',Fr C.T w W->PaAt C W l' d->Calls Tryz.prog 200 #[.pointer (some ⟨C.P,0,none⟩),.slice (some ⟨b,0,none⟩) n c] W λe w'=>e= .returned (.int .i64 (isP signs l'))/\W=w':=λW l' hF hP=>by
   have:=zhh C signs l' d b 0 c W hP (by rw[<-HN.out];omega) (λj hj=>by
    rw[Nat.zero_add];exact(hF.cell (p:=⟨b,j,none⟩) Ll SR).trans (HC j hj))
   rw[<-HN.out]at this;exact this
  have QX:=hdq U5;clear hv GI hf Gr hbx GL U5;go_wp2_with fail;rw[<-L0.out];refine(QX _ _ ST.fr ST.pa).mono ?_;rintro _ w4 ⟨rfl,rfl⟩;rw[<-JC.out];go_wp2_with fail;go_loopw [10] (λv wr=>∃(x:Ex)(A:Option Addr)(c1:Nat)(r:List Tk),v= .int .i64 (isP signs r)/\Hid (ChE C w bx d R one first signs wr x A c1 r)) (λ_ wr=>lenP C wr);case atStart=>exact⟨x,A,c1,l1,rfl,ST⟩
  case round=>
   obtain⟨x,A,c1,r,rfl,Gr⟩:=hrel;obtain⟨k,Gz⟩:=nmq (isP signs r);rw[<-Gz];have b1:=Gr.box.cell 0;have b2:=Gr.box.cell 1;have b3:=Gr.box.cell 2;have b4:=Gr.box.cell 3;have b5:=Gr.box.cell 4;have b0:=Gr.box0.cell 0;simp only[getsL]at b1 b2 b3 b4 b5;have MX:=hdq Gz;clear Gz;by_cases FE:k < 0
   ·clear b0;have g0:=Gr.box0.frozen 0;have g1:=Gr.box0.frozen 1;have g2:=Gr.box0.frozen 2;have g3:=Gr.box0.frozen 3;have g4:=Gr.box0.frozen 4;have q0:=Gr.box0.cell 0;have q1:=Gr.box0.cell 1;have q2:=Gr.box0.cell 2;have q3:=Gr.box0.cell 3;have q4:=Gr.box0.cell 4;have SU:=Gr.box0.lt;simp only[getsL]at q0 q1 q2 q3 q4;have Gc:¬0<=k:=by omega
    have Ks:R= .ok x r:=by
     obtain⟨f,hf,_⟩:=Gr.eq;rw[hf];cases f with
     |zero=>rfl
     |succ f=>simp only[zaH];rw[if_pos (by rw[<-MX.out];exact FE)]
    have G3:=hdq Ks;clear Ks;go_wp2_with fail;refine bodyPost_ret (v:=exV x.k x.nm x.n A x.args.len c1 x.at_) (by simp[results,Tryz.results285,go_sem,exV,q0,q1,q2,q3,q4,SU]) rfl ?_;rw[G3.out];unfold ExP;simp only;have GU:Fr (λb=>b=w.heap.size) wr (((((wr.setCell ⟨w.heap.size,0,none⟩ (.int .u8 x.k)).setCell ⟨w.heap.size,1,none⟩ (.string x.nm)).setCell ⟨w.heap.size,2,none⟩ (.int .i64 x.n)).setCell ⟨w.heap.size,3,none⟩ (.slice A x.args.len c1)).setCell ⟨w.heap.size,4,none⟩ (.int .i64 x.at_)):=by
     exact Fr.own (Fr.own (Fr.own (Fr.own (Fr.own (Fr.refl _ _) _ _) _ _) _ _) _ _) _ _
    refine⟨_,rfl,ExVS.fr Gr.val GU (λb hb=>⟨hb.2.1,λe=>by have:=hb.1;omega⟩) (λb hb=>⟨by have:=hb.1;omega,by have:=hb.2.1;have:=GU.size;omega⟩),?_,?_⟩
    ·refine Gr.pa.fr GU (λe=>?_) (λe=>?_) (λi hi e=>?_)<;>have:=HL.out<;>omega
    ·exact Fr.high (Fr.high (Fr.high (Fr.high (Fr.high Gr.fr (lrq _) _ _) (lrq _) _ _) (lrq _) _ _) (lrq _) _ _) (lrq _) _ _
   ·have Fz:0<=k:=by omega
    have LY:=zcF (signs:=signs) (l:=r) (by rw[<-MX.out];exact Fz);have U6:=XL _ LY.1;have Js:=zbk C r d wr hk Gr.pa (λht=>U6 ht.1);unfold zdQ tkV pP at Js;have Mg:=hdq Js;have Km:k<=5:=by
     have:=zhj signs r;rw[<-MX.out,<-HN.out]at this;omega
    clear FE Js LY U6;go_wp2_with fail;refine Mg.mono ?_;rintro _ w5 ⟨rfl,GI,hf⟩;have KP:bx≠C.P:=by have:=Gr.hbx;have:=HL.1;omega
    have FT:=Gr.box.fr hf KP;have Rd:=hdq GI;have Gl:=hdq (Gr.fr.trans hf);have XM:=hdq hf;have y1:=FT.cell 0;have y2:=FT.cell 1;have y3:=FT.cell 2;have y4:=FT.cell 3;have y5:=FT.cell 4;simp only[getsL]at y1 y2 y3 y4 y5;have SV:=hdq FT;have GM:=λW hW=>JF W hW r.tail;clear GI hf FT b0 b1 b2 b3 b4 b5;go_wp2_with fail;cases ho:one r.tail with
    |err e a=>
     have hq:=GM _ Gl.drew (Rd.fr (T:=NoT) (Fr.drew (Fr.refl _ _)) id id (λ_ _=>id));rw[ho]at hq;unfold ExP at hq;simp only at hq;unfold zae at hq;have Sd:=hdq hq;have Ks:R= .err e a:=by
      obtain⟨f,hf,FB⟩:=Gr.eq;have FO:0 < r.length:=List.length_pos_iff.2 Gr.pa.ne;obtain⟨f,rfl⟩:∃f',f=f'+1:=⟨f - 1,by omega⟩;rw[hf];simp only[zaH];rw[if_neg (by rw[<-MX.out];omega),ho];rfl
     have G3:=hdq Ks;clear hq Ks ho GM
     go_region_dies
     all_goals
      refine Sd.mono ?_;rintro _ w7 ⟨rfl,Hp⟩;go_wp2_with fail;exact⟨rfl,by rw[G3.out];exact⟨rfl,Gl.drew.trans Hp⟩⟩
    |ok y l2=>
     have hq:=GM _ Gl.drew (Rd.fr (T:=NoT) (Fr.drew (Fr.refl _ _)) id id (λ_ _=>id));rw[ho]at hq;unfold ExP at hq;simp only at hq;have Sd:=hdq hq;have Ks:∃f,R=zaH one (twoX first) signs f (twoX first k (hdT r).at_ x y) l2/\l2.length<=f:=by
      obtain⟨f,hf,FB⟩:=Gr.eq;have FO:0 < r.length:=List.length_pos_iff.2 Gr.pa.ne;obtain⟨f,rfl⟩:∃f',f=f'+1:=⟨f - 1,by omega⟩;refine⟨f,?_,?_⟩
      ·rw[hf];simp only[zaH];rw[if_neg (by rw[<-MX.out];omega),ho,<-MX.out];rfl
      ·have:=Jm _ _ _ ho;rw[List.length_tail]at this;omega
     have G3:=hdq Ks;have HS:=hdq (Jm _ _ _ ho);clear hq Ks ho GM
     go_region_with
      (first
       |(go_at_call 305
         with_reducible refine(zll first k (hdT r).at_ bt x.k x.n x.at_ y.k y.n y.at_ x.nm y.nm A A2 x.args.len y.args.len c1 c2 w7 PH.out.1 PH.out.2 Fz Km Jc Hg).mono ?_
         rintro _ w8 ⟨g2,rfl,PE,PF,PI,GF⟩;have FM:=WZ.fr0 GF;have q1:=FM.cell 0;have q2:=FM.cell 1;have q3:=FM.cell 2;have q4:=FM.cell 3;have q5:=FM.cell 4;have f1:=FM.frozen 0;have f2:=FM.frozen 1;have f3:=FM.frozen 2;have f4:=FM.frozen 3;have f5:=FM.frozen 4;simp only[getsL]at q1 q2 q3 q4 q5;have XN:=hdq PE;have U7:=hdq (show w7.heap.size<=g2/\g2 < w8.heap.size from⟨PF,PI⟩);have QY:=hdq GF;have QZ:=hdq FM;clear PE PF PI GF FM z1 z2 z3 z4 z5;unfold exV)
       |(with_reducible refine Sd.out.mono ?_
         rintro _ w7 ⟨v7,rfl,NE,PJ,Hp⟩;obtain⟨A2,c2,rfl⟩:=ExVS.parts NE;have Hf:=(SV.fr (Fr.drew (Fr.refl NoT _)) id).fr Hp KP;have z1:=Hf.cell 0;have z2:=Hf.cell 1;have z3:=Hf.cell 2;have z4:=Hf.cell 3;have z5:=Hf.cell 4;simp only[getsL]at z1 z2 z3 z4 z5;have WZ:=hdq Hf;have M7:=hdq NE;have KQ:=hdq PJ;have GV:=hdq Hp;have M8:=((Mu.fr Gl.out LZ).fr (Fr.drew (Fr.refl NoT _)) id).fr Hp LZ;have PH:=hdq (show bt < w7.heap.size/\w7.cell? ⟨bt,0,none⟩=some (.int .u8 first)from⟨M8.lt,M8.cell 0⟩);clear Hf NE PJ Hp M8;unfold exV))
     all_goals(go_wp2_with fail)
     all_goals
      obtain⟨w9,LK⟩:=nmq ((((((w8.setCell ⟨bx,0,none⟩ (.int .u8 (first+k))).setCell ⟨bx,1,none⟩ (.string noB)).setCell ⟨bx,2,none⟩ (.int .i64 0)).setCell ⟨bx,3,none⟩ (.slice (some ⟨g2,0,none⟩) 2 2)).setCell ⟨bx,4,none⟩ (.int .i64 ((hdT r).at_ :Int))));have M9:=zlm hk HL.out Gr.out KP XM.out M7.out KQ.out GV.out XN.out U7.out QY.out QZ.out G3.out Fz Km Jc Hg w9 LK;rw[<-LK];have Na:=hdq M9;have XO:=hdq (show lenP C w9 < lenP C wr from by
       rw[M9.pa.lenP,Gr.pa.lenP];have h1:=HS.out;have h2:=List.length_pos_iff.2 Gr.pa.ne;rw[List.length_tail]at h1;omega)
      clear LK M9 q1 q2 q3 q4 q5 f1 f2 f3 f4 f5;refine(QX _ l2 Na.fr Na.pa).mono ?_;rintro _ w10 ⟨rfl,rfl⟩;go_wp2_with fail;go_roundw;case rel=>exact⟨_,_,_,l2,rfl,Na⟩
      case measure=>exact XO.out
theorem ExP.ways {C:Pcx}{d:Nat}{r:PR Ex}{W w':World}{e:Ending}(h:ExP C d r W e w'):
  (∃(x:Ex)(l:List Tk)(A:Option Addr)(c:Nat),r= .ok x l/\e= .returned (.agg #[.int .u8 x.k,.string x.nm,.int .i64 x.n,.slice A x.args.len c,.int .i64 x.at_])/\ExV w' W.heap.size (exV x.k x.nm x.n A x.args.len c x.at_) x/\PaAt C w' l d/\Fr C.T W w')\/
   ∃c a,r= .err c a/\e= .panicked [{v:= .iface 161 (.agg #[.int .i64 c,.int .i64 a]),recovered:=false}]/\Fr C.T W w':=by
 unfold ExP at h;cases r with
 |err c a=>exact .inr ⟨c,a,rfl,h⟩
 |ok x l=>
  obtain⟨v,rfl,hv,hp,hf⟩:=h;obtain⟨A,c,rfl⟩:=ExVS.parts hv;exact .inl ⟨x,l,A,c,rfl,rfl,hv,hp,hf⟩
theorem zc2 {C:Pcx}{w WA w7 w9:World}{d rb:Nat}{x:Ex}{l:List Tk}{A:Option Addr}{c:Nat}(hL:C.P < w.heap.size/\C.TB < w.heap.size/\C.W0.heap.size<=w.heap.size)(hA:Fr NoT w WA)(hr:w.heap.size<=rb)(Fj:rb < WA.heap.size)
  (hv:ExV w7 WA.heap.size (exV x.k x.nm x.n A x.args.len c x.at_) x) (hp:PaAt C w7 l d) (hf:Fr C.T WA w7)
  (h9:w9=((((w7.setCell ⟨rb,0,none⟩ (.int .u8 x.k)).setCell ⟨rb,1,none⟩ (.string x.nm)).setCell ⟨rb,2,none⟩ (.int .i64 x.n)).setCell ⟨rb,3,none⟩ (.slice A x.args.len c)).setCell ⟨rb,4,none⟩ (.int .i64 x.at_)):
  ExP C d (.ok x l) w (.returned (exV x.k x.nm x.n A x.args.len c x.at_)) w9:=by
 have Gk:Fr (λb=>b=rb) w7 w9:=by rw[h9];exact Fr.own (Fr.own (Fr.own (Fr.own (Fr.own (Fr.refl _ _) _ _) _ _) _ _) _ _) _ _
 have h1:=hA.size;unfold ExP;refine⟨_,rfl,(ExV.fr hv Gk λb h2 h3 e=>?_).low (by omega),hp.fr Gk (λe=>?_) (λe=>?_) (λi hi e=>?_),?_⟩
 ·have e:b=rb:=e;omega
 ·have e:C.P=rb:=e;omega
 ·have e:C.TB=rb:=e;omega
 ·have e:i=rb:=e;omega
 ·rw[h9];have:=hA.any.trans hf;exact Fr.high (Fr.high (Fr.high (Fr.high (Fr.high this (by omega) _ _) (by omega) _ _) (by omega) _ _) (by omega) _ _) (by omega) _ _
def strA (signs:List (List UInt8)):Array Value:=(signs.map λs=>Value.string ⟨s.toArray⟩).toArray
theorem ordA (w:World)(cs ss:Array Value)(W:World)(hW:W=((w.alloc (.cells cs 5)).alloc (.cells ss 9)).drew):Bk W w.heap.size 5 cs/\Bk W (w.heap.size+1) 9 ss/\Fr NoT w W:=by
 subst hW;exact⟨(Bk.new w _ _).alloc _,Bk.new_at _ _ _ (by simp),Fr.drew (((Fr.refl NoT w).alloc _).alloc _)⟩
theorem ordB (w:World)(cs ss:Array Value)(W:World)(hW:W=((w.alloc (.cells ss 9)).alloc (.cells cs 5)).drew):Bk W (w.heap.size+1) 5 cs/\Bk W w.heap.size 9 ss/\Fr NoT w W:=by
 subst hW;exact⟨Bk.new_at _ _ _ (by simp),(Bk.new w _ _).alloc _,Fr.drew (((Fr.refl NoT w).alloc _).alloc _)⟩
theorem zfg (C:Pcx)(one:List Tk->PR Ex)(first:Int)(signs:List (List UInt8))(g:Nat)(fst cap:Array Value)(bt b m:Nat)(l:List Tk)(d:Nat)(w:World)(hk:C.Ok)(h:PaAt C w l d)(Jm:Shr one)
  (hm:m=signs.length) (LJ:∀s∈signs,s≠ []) (Fu:signs.length<=3) (NG:Bk w b 9 (strA signs)) (SR:b≠C.P)
  (Mu:Bk w bt 5 #[.int .u8 first]) (LZ:bt≠C.P) (Jc:0<=first) (Hg:first<=20)
  (hent:Enters Tryz.prog g) (GM:∀W,Fr C.T w W->∀l',PaAt C W l' d->Calls Tryz.prog g (fst++cap) W (ExP C d (one l') W)):
  Calls Tryz.prog 285 #[.pointer (some ⟨C.P,0,none⟩),.func (.func g) fst cap,.func (.func 305) #[] #[.pointer (some ⟨bt,0,none⟩)],.slice (some ⟨b,0,none⟩) m m] w (ExP C d (zaT one (twoX first) signs l) w):=by
 subst hm;exact zh7 C one first signs g fst cap bt b _ l d w hk h Jm LJ Fu (λj hj=>by rw[NG.cell j];simp[strA,hj]) NG.lt SR Mu LZ Jc Hg hent GM
def zdt (C:Pcx)(n:Nat):Prop:=∀(l:List Tk)(d:Nat)(w:World),d+n=24->PaAt C w l d->Calls Tryz.prog 286 #[.pointer (some ⟨C.P,0,none⟩)] w (ExP C d (zav n l) w)
def zdm (n:Nat)(l:List Tk):PR Ex:=zaT (zav n) (twoX 7) mulS l
def sumP (n:Nat)(l:List Tk):PR Ex:=zaT (zdm n) (twoX 5) addS l
theorem zeE (n:Nat):Shr (zdm n):=zaA (zbp n)
theorem zln (n:Nat):Shr (sumP n):=zaA (zeE n)
theorem zjf (C:Pcx)(n:Nat)(hs:zdt C n)(l:List Tk)(d pb:Nat)(w:World)(Gd:d+n=24)(hk:C.Ok)(h:PaAt C w l d)(Jh:Bk w pb 162 #[.pointer (some ⟨C.P,0,none⟩)])(Gc:pb≠C.P):
  Calls Tryz.prog 284 #[.pointer (some ⟨pb,0,none⟩)] w (ExP C d (zdm n l) w):=by
 have Jt:= @makeF Tryz.prog;have hL:=h.lts;have Gq:=Jh.lt;have KA:pb≠C.P:=Gc;have Fk:=Jh.cell 0;simp only[List.getElem?_toArray,List.getElem?_cons_zero]at Fk;obtain⟨w1,Hc⟩:=nmq (w.alloc (.cells #[.int .u8 0,.string ⟨#[]⟩,.int .i64 0,.slice none 0 0,.int .i64 0] 175));have Hy:w1.heap.size=w.heap.size+1:=by rw[Hc];simp
 have Hg:Fr NoT w w1:=by rw[Hc];exact(Fr.refl _ _).alloc _
 have hbx:Bk w1 w.heap.size 175 #[.int .u8 0,.string ⟨#[]⟩,.int .i64 0,.slice none 0 0,.int .i64 0]:=by rw[Hc];exact Bk.new _ _ _
 obtain⟨a1,a2,a3⟩:=ordA w1 #[.int .u8 7] (strA mulS) _ rfl;obtain⟨b1,b2,b3⟩:=ordB w1 #[.int .u8 7] (strA mulS) _ rfl;rw[Hy]at a1 a2 b1 b2;have key:∀(W:World)(bt b:Nat),Fr NoT w1 W->Bk W bt 5 #[.int .u8 7]->Bk W b 9 (strA mulS)->w.heap.size < bt->w.heap.size < b->Calls Tryz.prog 285 #[.pointer (some ⟨C.P,0,none⟩),.func (.func 286) #[.pointer (some ⟨C.P,0,none⟩)] #[],.func (.func 305) #[] #[.pointer (some ⟨bt,0,none⟩)],.slice (some ⟨b,0,none⟩) 3 3] W (ExP C d (zdm n l) W):=λW bt b hf h1 h2 h3 h4=>
  zfg C (zav n) 7 mulS 286 _ _ bt b 3 l d W hk (h.fr (Hg.trans hf) id id λ_ _=>id) (zbp n) rfl (by decide) (by decide) h2 (by omega) h1 (by omega) (by decide) (by decide) (enters_of Tryz.func286 (by kernel_rfl) rfl) λW' _ l' Lx=>by
   simpa using hs l' d W' Gd Lx
 have fin:∀(WA w7:World)(e:Ending),Fr NoT w1 WA->ExP C d (zdm n l) WA e w7->Fr NoT w WA/\Bk WA w.heap.size 175 #[.int .u8 0,.string ⟨#[]⟩,.int .i64 0,.slice none 0 0,.int .i64 0]:=λWA w7 e hf _=>⟨Hg.trans hf,hbx.fr0 hf⟩;have HA:=hdq (key _ _ _ a3 a1 a2 (by omega) (by omega));have HB:=hdq (key _ _ _ b3 b1 b2 (by omega) (by omega));have GO:=hdq (aiq (Hg.trans a3) (hbx.fr0 a3));have GW:=hdq (aiq (Hg.trans b3) (hbx.fr0 b3));rw[Hc]at HA HB GO GW;have HL:=hdq hL;have Fl:¬w.heap.size=C.P:=by omega
 have Ky:=hdq Fl;clear key fin Hc Hy Hg hbx a1 a2 a3 b1 b2 b3 hL h hk hs Jh Gc Fl;unfold strA mulS at HA HB GO GW;simp only[List.map_cons,List.map_nil]at HA HB GO GW;go_enter Tryz.func284,Tryz.ntmps284;go_wp2_with fail
 go_region_held2 (λW'=>W'.cell? ⟨pb,0,none⟩=some (.pointer (some ⟨C.P,0,none⟩)))
  (first
   |(with_reducible assumption)
   |(with_reducible refine(Fr.cell (T:=λb=>b=w.heap.size) (w:=w7) (Fr.own (Fr.own (Fr.own (Fr.own (Fr.own (Fr.refl _ _) _ _) _ _) _ _) _ _) _ _) GZ.1 GZ.2).trans GY)
   |(refine(Fr.cell (T:=NoT) (w:=w) ?_ Gq id).trans Fk
     repeat(first|exact Fr.refl _ _|refine Fr.alloc ?_ _|refine Fr.drew ?_)))
  (first
   |(go_at_call 287
     refine(zgJ _ _).mono ?_;rintro _ wa ⟨rfl,rfl⟩)
   |(go_at_call 285
     with_reducible refine HA.out.mono ?_
     intro e w7 hE;rcases hE.ways with⟨x,r,A,c,hR,rfl,hv,hp,hf⟩|⟨c,a,hR,rfl,hf⟩;rotate_left
     ·exact⟨rfl,by rw[hR];exact⟨rfl,(GO.1.any).trans hf⟩⟩
     have Hf:=GO.2.fr hf Ky.out;have q0:=Hf.cell 0;have q1:=Hf.cell 1;have q2:=Hf.cell 2;have q3:=Hf.cell 3;have q4:=Hf.cell 4;have g0:=Hf.frozen 0;have g1:=Hf.frozen 1;have g2:=Hf.frozen 2;have g3:=Hf.frozen 3;have g4:=Hf.frozen 4;have Jd:=Hf.lt;have GY:=(Fk.symm.trans ((GO.1.cell (p:=⟨pb,0,none⟩) Gq id).symm.trans (hf.cell (p:=⟨pb,0,none⟩) (ltq Gq GO.1.size) KA).symm)).symm;have GZ:pb < w7.heap.size/\¬pb=w.heap.size:=⟨ltq Gq (leq9 GO.1.size hf.size),by omega⟩;simp only[getsL]at q0 q1 q2 q3 q4;have HE:=hdq (show ∀w9,w9=((((w7.setCell ⟨w.heap.size,0,none⟩ (.int .u8 x.k)).setCell ⟨w.heap.size,1,none⟩ (.string x.nm)).setCell ⟨w.heap.size,2,none⟩ (.int .i64 x.n)).setCell ⟨w.heap.size,3,none⟩ (.slice A x.args.len c)).setCell ⟨w.heap.size,4,none⟩ (.int .i64 x.at_)->ExP C d (zdm n l) w (.returned (exV x.k x.nm x.n A x.args.len c x.at_)) w9 from λw9 h9=>by
      rw[hR];exact zc2 HL.out GO.1 (lrq _) GO.2.lt hv hp hf h9)
     clear hR hv hp hf Hf)
   |(go_at_call 285
     with_reducible refine HB.out.mono ?_
     intro e w7 hE;rcases hE.ways with⟨x,r,A,c,hR,rfl,hv,hp,hf⟩|⟨c,a,hR,rfl,hf⟩;rotate_left
     ·exact⟨rfl,by rw[hR];exact⟨rfl,(GW.1.any).trans hf⟩⟩
     have Hf:=GW.2.fr hf Ky.out;have q0:=Hf.cell 0;have q1:=Hf.cell 1;have q2:=Hf.cell 2;have q3:=Hf.cell 3;have q4:=Hf.cell 4;have g0:=Hf.frozen 0;have g1:=Hf.frozen 1;have g2:=Hf.frozen 2;have g3:=Hf.frozen 3;have g4:=Hf.frozen 4;have Jd:=Hf.lt;have GY:=(Fk.symm.trans ((GW.1.cell (p:=⟨pb,0,none⟩) Gq id).symm.trans (hf.cell (p:=⟨pb,0,none⟩) (ltq Gq GW.1.size) KA).symm)).symm;have GZ:pb < w7.heap.size/\¬pb=w.heap.size:=⟨ltq Gq (leq9 GW.1.size hf.size),by omega⟩;simp only[getsL]at q0 q1 q2 q3 q4;have HE:=hdq (show ∀w9,w9=((((w7.setCell ⟨w.heap.size,0,none⟩ (.int .u8 x.k)).setCell ⟨w.heap.size,1,none⟩ (.string x.nm)).setCell ⟨w.heap.size,2,none⟩ (.int .i64 x.n)).setCell ⟨w.heap.size,3,none⟩ (.slice A x.args.len c)).setCell ⟨w.heap.size,4,none⟩ (.int .i64 x.at_)->ExP C d (zdm n l) w (.returned (exV x.k x.nm x.n A x.args.len c x.at_)) w9 from λw9 h9=>by
      rw[hR];exact zc2 HL.out GW.1 (lrq _) GW.2.lt hv hp hf h9)
     clear hR hv hp hf Hf))
 all_goals
  go_wp2_with fail;exact bodyPost_ret (v:=exV x.k x.nm x.n A x.args.len c x.at_) (by simp[results,Tryz.results284,go_sem,exV,q0,q1,q2,q3,q4,Jd]) rfl (HE _ rfl)
-- sum
theorem znf (C:Pcx)(n:Nat)(hs:zdt C n)(l:List Tk)(d pb fb:Nat)(w:World)(Gd:d+n=24)(hk:C.Ok)(h:PaAt C w l d)(Jh:Bk w pb 162 #[.pointer (some ⟨C.P,0,none⟩)])(Gc:pb≠C.P)(Mt:Bk w fb 328 #[.func (.func 284) #[] #[.pointer (some ⟨pb,0,none⟩)]])(PK:fb≠C.P):
  Calls Tryz.prog 288 #[.pointer (some ⟨pb,0,none⟩),.pointer (some ⟨fb,0,none⟩)] w (ExP C d (sumP n l) w):=by
 have Jt:= @makeF Tryz.prog;have hL:=h.lts;have Gq:=Jh.lt;have FB:=Mt.lt;have Q0:fb≠C.P:=PK;have MY:=Mt.cell 0;have KA:pb≠C.P:=Gc;have Fk:=Jh.cell 0;simp only[List.getElem?_toArray,List.getElem?_cons_zero]at Fk MY;obtain⟨w1,Hc⟩:=nmq (w.alloc (.cells #[.int .u8 0,.string ⟨#[]⟩,.int .i64 0,.slice none 0 0,.int .i64 0] 175));have Hy:w1.heap.size=w.heap.size+1:=by rw[Hc];simp
 have Hg:Fr NoT w w1:=by rw[Hc];exact(Fr.refl _ _).alloc _
 have hbx:Bk w1 w.heap.size 175 #[.int .u8 0,.string ⟨#[]⟩,.int .i64 0,.slice none 0 0,.int .i64 0]:=by rw[Hc];exact Bk.new _ _ _
 obtain⟨a1,a2,a3⟩:=ordA w1 #[.int .u8 5] (strA addS) _ rfl;obtain⟨b1,b2,b3⟩:=ordB w1 #[.int .u8 5] (strA addS) _ rfl;rw[Hy]at a1 a2 b1 b2;have key:∀(W:World)(bt b:Nat),Fr NoT w1 W->Bk W bt 5 #[.int .u8 5]->Bk W b 9 (strA addS)->w.heap.size < bt->w.heap.size < b->Calls Tryz.prog 285 #[.pointer (some ⟨C.P,0,none⟩),.func (.func 284) #[] #[.pointer (some ⟨pb,0,none⟩)],.func (.func 305) #[] #[.pointer (some ⟨bt,0,none⟩)],.slice (some ⟨b,0,none⟩) 2 2] W (ExP C d (sumP n l) W):=λW bt b hf h1 h2 h3 h4=>
  zfg C (zdm n) 5 addS 284 _ _ bt b 2 l d W hk (h.fr (Hg.trans hf) id id λ_ _=>id) (zeE n) rfl (by decide) (by decide) h2 (by omega) h1 (by omega) (by decide) (by decide) (enters_of Tryz.func284 (by kernel_rfl) rfl) λW' G6 l' Lx=>by
   simpa using zjf C n hs l' d pb W' Gd hk Lx (((Jh.fr0 (Hg.trans hf)).fr G6 Gc)) Gc
 have fin:∀(WA w7:World)(e:Ending),Fr NoT w1 WA->ExP C d (sumP n l) WA e w7->Fr NoT w WA/\Bk WA w.heap.size 175 #[.int .u8 0,.string ⟨#[]⟩,.int .i64 0,.slice none 0 0,.int .i64 0]:=λWA w7 e hf _=>⟨Hg.trans hf,hbx.fr0 hf⟩;have HA:=hdq (key _ _ _ a3 a1 a2 (by omega) (by omega));have HB:=hdq (key _ _ _ b3 b1 b2 (by omega) (by omega));have GO:=hdq (aiq (Hg.trans a3) (hbx.fr0 a3));have GW:=hdq (aiq (Hg.trans b3) (hbx.fr0 b3));rw[Hc]at HA HB GO GW;have HL:=hdq hL;have Fl:¬w.heap.size=C.P:=by omega
 have Ky:=hdq Fl;clear key fin Hc Hy Hg hbx a1 a2 a3 b1 b2 b3 hL h hk hs Jh Gc Fl Mt PK;unfold strA addS at HA HB GO GW;simp only[List.map_cons,List.map_nil]at HA HB GO GW;go_enter Tryz.func288,Tryz.ntmps288;go_wp2_with fail
 go_region_held2 (λW'=>W'.cell? ⟨pb,0,none⟩=some (.pointer (some ⟨C.P,0,none⟩))/\W'.cell? ⟨fb,0,none⟩=some (.func (.func 284) #[] #[.pointer (some ⟨pb,0,none⟩)]))
  (first
   |(refine⟨?_,?_⟩<;>with_reducible assumption)
   |(with_reducible refine⟨(Fr.cell (T:=λb=>b=w.heap.size) (w:=w7) (Fr.own (Fr.own (Fr.own (Fr.own (Fr.own (Fr.refl _ _) _ _) _ _) _ _) _ _) _ _) GZ.1 GZ.2).trans GY,(Fr.cell (T:=λb=>b=w.heap.size) (w:=w7) (Fr.own (Fr.own (Fr.own (Fr.own (Fr.own (Fr.refl _ _) _ _) _ _) _ _) _ _) _ _) KR.1 KR.2).trans Q2⟩)
   |(refine⟨(Fr.cell (T:=NoT) (w:=w) ?_ Gq id).trans Fk,(Fr.cell (T:=NoT) (w:=w) ?_ FB id).trans MY⟩<;>
     repeat(first|exact Fr.refl _ _|refine Fr.alloc ?_ _|refine Fr.drew ?_)))
  (first
   |(go_at_call 287
     refine(zgJ _ _).mono ?_;rintro _ wa ⟨rfl,rfl⟩)
   |(go_at_call 285
     with_reducible refine HA.out.mono ?_
     intro e w7 hE;rcases hE.ways with⟨x,r,A,c,hR,rfl,hv,hp,hf⟩|⟨c,a,hR,rfl,hf⟩;rotate_left
     ·exact⟨rfl,by rw[hR];exact⟨rfl,(GO.1.any).trans hf⟩⟩
     have Hf:=GO.2.fr hf Ky.out;have q0:=Hf.cell 0;have q1:=Hf.cell 1;have q2:=Hf.cell 2;have q3:=Hf.cell 3;have q4:=Hf.cell 4;have g0:=Hf.frozen 0;have g1:=Hf.frozen 1;have g2:=Hf.frozen 2;have g3:=Hf.frozen 3;have g4:=Hf.frozen 4;have Jd:=Hf.lt;have GY:=(Fk.symm.trans ((GO.1.cell (p:=⟨pb,0,none⟩) Gq id).symm.trans (hf.cell (p:=⟨pb,0,none⟩) (ltq Gq GO.1.size) KA).symm)).symm;have Q2:=(MY.symm.trans ((GO.1.cell (p:=⟨fb,0,none⟩) FB id).symm.trans (hf.cell (p:=⟨fb,0,none⟩) (ltq FB GO.1.size) Q0).symm)).symm;have GZ:pb < w7.heap.size/\¬pb=w.heap.size:=⟨ltq Gq (leq9 GO.1.size hf.size),by omega⟩;have KR:fb < w7.heap.size/\¬fb=w.heap.size:=⟨ltq FB (leq9 GO.1.size hf.size),by omega⟩;simp only[getsL]at q0 q1 q2 q3 q4;have HE:=hdq (show ∀w9,w9=((((w7.setCell ⟨w.heap.size,0,none⟩ (.int .u8 x.k)).setCell ⟨w.heap.size,1,none⟩ (.string x.nm)).setCell ⟨w.heap.size,2,none⟩ (.int .i64 x.n)).setCell ⟨w.heap.size,3,none⟩ (.slice A x.args.len c)).setCell ⟨w.heap.size,4,none⟩ (.int .i64 x.at_)->ExP C d (sumP n l) w (.returned (exV x.k x.nm x.n A x.args.len c x.at_)) w9 from λw9 h9=>by
      rw[hR];exact zc2 HL.out GO.1 (lrq _) GO.2.lt hv hp hf h9)
     clear hR hv hp hf Hf)
   |(go_at_call 285
     with_reducible refine HB.out.mono ?_
     intro e w7 hE;rcases hE.ways with⟨x,r,A,c,hR,rfl,hv,hp,hf⟩|⟨c,a,hR,rfl,hf⟩;rotate_left
     ·exact⟨rfl,by rw[hR];exact⟨rfl,(GW.1.any).trans hf⟩⟩
     have Hf:=GW.2.fr hf Ky.out;have q0:=Hf.cell 0;have q1:=Hf.cell 1;have q2:=Hf.cell 2;have q3:=Hf.cell 3;have q4:=Hf.cell 4;have g0:=Hf.frozen 0;have g1:=Hf.frozen 1;have g2:=Hf.frozen 2;have g3:=Hf.frozen 3;have g4:=Hf.frozen 4;have Jd:=Hf.lt;have GY:=(Fk.symm.trans ((GW.1.cell (p:=⟨pb,0,none⟩) Gq id).symm.trans (hf.cell (p:=⟨pb,0,none⟩) (ltq Gq GW.1.size) KA).symm)).symm;have Q2:=(MY.symm.trans ((GW.1.cell (p:=⟨fb,0,none⟩) FB id).symm.trans (hf.cell (p:=⟨fb,0,none⟩) (ltq FB GW.1.size) Q0).symm)).symm;have GZ:pb < w7.heap.size/\¬pb=w.heap.size:=⟨ltq Gq (leq9 GW.1.size hf.size),by omega⟩;have KR:fb < w7.heap.size/\¬fb=w.heap.size:=⟨ltq FB (leq9 GW.1.size hf.size),by omega⟩;simp only[getsL]at q0 q1 q2 q3 q4;have HE:=hdq (show ∀w9,w9=((((w7.setCell ⟨w.heap.size,0,none⟩ (.int .u8 x.k)).setCell ⟨w.heap.size,1,none⟩ (.string x.nm)).setCell ⟨w.heap.size,2,none⟩ (.int .i64 x.n)).setCell ⟨w.heap.size,3,none⟩ (.slice A x.args.len c)).setCell ⟨w.heap.size,4,none⟩ (.int .i64 x.at_)->ExP C d (sumP n l) w (.returned (exV x.k x.nm x.n A x.args.len c x.at_)) w9 from λw9 h9=>by
      rw[hR];exact zc2 HL.out GW.1 (lrq _) GW.2.lt hv hp hf h9)
     clear hR hv hp hf Hf))
 all_goals
  go_wp2_with fail;exact bodyPost_ret (v:=exV x.k x.nm x.n A x.args.len c x.at_) (by simp[results,Tryz.results288,go_sem,exV,q0,q1,q2,q3,q4,Jd]) rfl (HE _ rfl)
-- expr
theorem zfh (C:Pcx)(n:Nat)(hs:zdt C n)(l:List Tk)(d:Nat)(w:World)(Gd:d+n=24)(hk:C.Ok)(h:PaAt C w l d):
  Calls Tryz.prog 247 #[.pointer (some ⟨C.P,0,none⟩)] w (ExP C d (zaL n l) w):=by
 have Jt:= @makeF Tryz.prog;have hL:=h.lts;obtain⟨w1,Hc⟩:=nmq (((w.alloc (.cells #[.pointer (some ⟨C.P,0,none⟩)] 162)).alloc (.cells #[.int .u8 0,.string ⟨#[]⟩,.int .i64 0,.slice none 0 0,.int .i64 0] 175)).alloc (.cells #[.func (.func 284) #[] #[.pointer (some ⟨w.heap.size,0,none⟩)]] 328));have Hy:w1.heap.size=w.heap.size+3:=by rw[Hc];simp
 have Hg:Fr NoT w w1:=by rw[Hc];exact(((Fr.refl _ _).alloc _).alloc _).alloc _
 have Gx:Bk w1 w.heap.size 162 #[.pointer (some ⟨C.P,0,none⟩)]:=by rw[Hc];exact((Bk.new _ _ _).alloc _).alloc _
 have hbx:Bk w1 (w.heap.size+1) 175 #[.int .u8 0,.string ⟨#[]⟩,.int .i64 0,.slice none 0 0,.int .i64 0]:=by rw[Hc];exact(Bk.new_at _ _ _ (by simp)).alloc _
 have Jj:Bk w1 (w.heap.size+2) 328 #[.func (.func 284) #[] #[.pointer (some ⟨w.heap.size,0,none⟩)]]:=by rw[Hc];exact Bk.new_at _ _ _ (by simp)
 obtain⟨a1,a2,a3⟩:=ordA w1 #[.int .u8 10] (strA shS) _ rfl;obtain⟨b1,b2,b3⟩:=ordB w1 #[.int .u8 10] (strA shS) _ rfl;rw[Hy]at a1 a2 b1 b2;have key:∀(W:World)(bt b:Nat),Fr NoT w1 W->Bk W bt 5 #[.int .u8 10]->Bk W b 9 (strA shS)->w.heap.size < bt->w.heap.size < b->Calls Tryz.prog 285 #[.pointer (some ⟨C.P,0,none⟩),.func (.func 288) #[] #[.pointer (some ⟨w.heap.size,0,none⟩),.pointer (some ⟨w.heap.size+1+1,0,none⟩)],.func (.func 305) #[] #[.pointer (some ⟨bt,0,none⟩)],.slice (some ⟨b,0,none⟩) 2 2] W (ExP C d (zaL n l) W):=λW bt b hf h1 h2 h3 h4=>
  zfg C (sumP n) 10 shS 288 _ _ bt b 2 l d W hk (h.fr (Hg.trans hf) id id λ_ _=>id) (zln n) rfl (by decide) (by decide) h2 (by omega) h1 (by omega) (by decide) (by decide) (enters_of Tryz.func288 (by kernel_rfl) rfl) λW' G6 l' Lx=>by
   simpa using znf C n hs l' d w.heap.size (w.heap.size+2) W' Gd hk Lx ((Gx.fr0 hf).fr G6 (λe=>by have e:w.heap.size=C.P:=e;omega)) (by omega) ((Jj.fr0 hf).fr G6 (λe=>by have e:w.heap.size+2=C.P:=e;omega)) (by omega)
 have HA:=hdq (key _ _ _ a3 a1 a2 (by omega) (by omega));have HB:=hdq (key _ _ _ b3 b1 b2 (by omega) (by omega));have GO:=hdq (aiq (Hg.trans a3) (aiq (hbx.fr0 a3) (Gx.fr0 a3)));have GW:=hdq (aiq (Hg.trans b3) (aiq (hbx.fr0 b3) (Gx.fr0 b3)));have Fk:=Gx.cell 0;have Gq:=Gx.lt;simp only[List.getElem?_toArray,List.getElem?_cons_zero]at Fk;rw[Hc]at HA HB GO GW Fk Gq;have HL:=hdq hL;have Fl:¬w.heap.size+1=C.P:=by omega
 have Ky:=hdq Fl;have KA:¬w.heap.size=C.P:=by omega
 clear key Hc Hy Hg hbx Gx Jj a1 a2 a3 b1 b2 b3 hL h hk hs Fl;unfold strA shS at HA HB GO GW;simp only[List.map_cons,List.map_nil]at HA HB GO GW;go_enter Tryz.func247,Tryz.ntmps247;go_wp2_with fail
 go_region_held2 (λW'=>W'.cell? ⟨w.heap.size,0,none⟩=some (.pointer (some ⟨C.P,0,none⟩)))
  (first
   |(with_reducible assumption)
   |(with_reducible refine(Fr.cell (T:=λb=>b=w.heap.size+1) (w:=w7) (Fr.own (Fr.own (Fr.own (Fr.own (Fr.own (Fr.refl _ _) _ _) _ _) _ _) _ _) _ _) GZ.1 GZ.2).trans GY)
   |(refine(Fr.cell (T:=NoT) ?_ Gq id).trans Fk
     repeat(first|exact Fr.refl _ _|refine Fr.alloc ?_ _|refine Fr.drew ?_)))
  (first
   |(go_at_call 287
     refine(zgJ _ _).mono ?_;rintro _ wa ⟨rfl,rfl⟩)
   |(go_at_call 285
     with_reducible refine HA.out.mono ?_
     intro e w7 hE;rcases hE.ways with⟨x,r,A,c,hR,rfl,hv,hp,hf⟩|⟨c,a,hR,rfl,hf⟩;rotate_left
     ·exact⟨rfl,by rw[hR];exact⟨rfl,(GO.1.any).trans hf⟩⟩
     have Hf:=GO.2.1.fr hf Ky.out;have q0:=Hf.cell 0;have q1:=Hf.cell 1;have q2:=Hf.cell 2;have q3:=Hf.cell 3;have q4:=Hf.cell 4;have g0:=Hf.frozen 0;have g1:=Hf.frozen 1;have g2:=Hf.frozen 2;have g3:=Hf.frozen 3;have g4:=Hf.frozen 4;have Jd:=Hf.lt;have GY:=(GO.2.2.fr hf KA).cell 0;simp only[List.getElem?_toArray,List.getElem?_cons_zero]at GY;have GZ:w.heap.size < w7.heap.size/\¬w.heap.size=w.heap.size+1:=⟨(GO.2.2.fr hf KA).lt,by omega⟩;simp only[getsL]at q0 q1 q2 q3 q4;have HE:=hdq (show ∀w9,w9=((((w7.setCell ⟨w.heap.size+1,0,none⟩ (.int .u8 x.k)).setCell ⟨w.heap.size+1,1,none⟩ (.string x.nm)).setCell ⟨w.heap.size+1,2,none⟩ (.int .i64 x.n)).setCell ⟨w.heap.size+1,3,none⟩ (.slice A x.args.len c)).setCell ⟨w.heap.size+1,4,none⟩ (.int .i64 x.at_)->ExP C d (zaL n l) w (.returned (exV x.k x.nm x.n A x.args.len c x.at_)) w9 from λw9 h9=>by
      rw[hR];exact zc2 HL.out GO.1 (by omega) GO.2.1.lt hv hp hf h9)
     clear hR hv hp hf Hf)
   |(go_at_call 285
     with_reducible refine HB.out.mono ?_
     intro e w7 hE;rcases hE.ways with⟨x,r,A,c,hR,rfl,hv,hp,hf⟩|⟨c,a,hR,rfl,hf⟩;rotate_left
     ·exact⟨rfl,by rw[hR];exact⟨rfl,(GW.1.any).trans hf⟩⟩
     have Hf:=GW.2.1.fr hf Ky.out;have q0:=Hf.cell 0;have q1:=Hf.cell 1;have q2:=Hf.cell 2;have q3:=Hf.cell 3;have q4:=Hf.cell 4;have g0:=Hf.frozen 0;have g1:=Hf.frozen 1;have g2:=Hf.frozen 2;have g3:=Hf.frozen 3;have g4:=Hf.frozen 4;have Jd:=Hf.lt;have GY:=(GW.2.2.fr hf KA).cell 0;simp only[List.getElem?_toArray,List.getElem?_cons_zero]at GY;have GZ:w.heap.size < w7.heap.size/\¬w.heap.size=w.heap.size+1:=⟨(GW.2.2.fr hf KA).lt,by omega⟩;simp only[getsL]at q0 q1 q2 q3 q4;have HE:=hdq (show ∀w9,w9=((((w7.setCell ⟨w.heap.size+1,0,none⟩ (.int .u8 x.k)).setCell ⟨w.heap.size+1,1,none⟩ (.string x.nm)).setCell ⟨w.heap.size+1,2,none⟩ (.int .i64 x.n)).setCell ⟨w.heap.size+1,3,none⟩ (.slice A x.args.len c)).setCell ⟨w.heap.size+1,4,none⟩ (.int .i64 x.at_)->ExP C d (zaL n l) w (.returned (exV x.k x.nm x.n A x.args.len c x.at_)) w9 from λw9 h9=>by
      rw[hR];exact zc2 HL.out GW.1 (by omega) GW.2.1.lt hv hp hf h9)
     clear hR hv hp hf Hf))
 all_goals
  go_wp2_with fail;exact bodyPost_ret (v:=exV x.k x.nm x.n A x.args.len c x.at_) (by simp[results,Tryz.results247,go_sem,exV,q0,q1,q2,q3,q4,Jd]) rfl (HE _ rfl)
