/- parse: what is in parentheses, or in brackets; index. -/
import Derived.Test.YtfomomaomggpbaaGreatDoorJnPaC
set_option linter.all false
set_option maxHeartbeats 1600000
set_option maxRecDepth 100000
namespace Go.Proofs.YtfomomaomggpbaaGreatDoor
open Go.RowKit Go.Shelf
def PT (C:Pcx)(rb:Nat):Nat->Prop:=λb=>b=C.P\/b=rb
def ResAt (rb L:Nat)(w:World)(x:Ex):Prop:=∃A c,Bk w rb 175 #[.int .u8 x.k,.string x.nm,.int .i64 x.n,.slice A x.args.len c,.int .i64 x.at_]/\ExV w L (exV x.k x.nm x.n A x.args.len c x.at_) x
def ParP (C:Pcx)(rb d:Nat)(r:PR Ex)(W:World)(e:Ending)(w':World):Prop:=
 match r with
 | .err c a=>e=zae c a/\Fr (PT C rb) W w'
 | .ok x l=>e= .returned (.tuple #[])/\ResAt rb W.heap.size w' x/\PaAt C w' l d/\Fr (PT C rb) W w'
theorem PT.l {C:Pcx}{rb:Nat}{W w':World}(h:Fr C.T W w'):Fr (PT C rb) W w':=h.mono λi _ h=>Or.inl h
theorem bk5 {w:World}{rb:Nat}{a b c d e:Value}{A B D E F:Value}(h:Bk w rb 175 #[a,b,c,d,e]):
  Bk (((((w.setCell ⟨rb,0,none⟩ A).setCell ⟨rb,1,none⟩ B).setCell ⟨rb,2,none⟩ D).setCell ⟨rb,3,none⟩ E).setCell ⟨rb,4,none⟩ F) rb 175 #[A,B,D,E,F]:=by
 have:=((((h.set_ 0 A).set_ 1 B).set_ 2 D).set_ 3 E).set_ 4 F;simpa using this
def endP (s:List UInt8)(n:Nat)(l:List Tk):PR Ex:=(zaL n l).then λx r=>(zal s r).then λ_ r=> .ok x r
theorem zjg (C:Pcx)(n:Nat)(hs:zdt C n)(l:List Tk)(d pb rb:Nat)(w:World)(Gd:d+n=24)(hk:C.Ok)(h:PaAt C w l d)(Jh:Bk w pb 162 #[.pointer (some ⟨C.P,0,none⟩)])(Gc:pb≠C.P)
  (Gn:Bk w rb 175 #[.int .u8 0,.string ⟨#[]⟩,.int .i64 0,.slice none 0 0,.int .i64 0]) (Ly:rb≠C.P) (NY:rb≠C.TB) (Se:C.W0.heap.size<=rb) (Kf:pb≠rb):
  Calls Tryz.prog 304 #[.pointer (some ⟨pb,0,none⟩),.pointer (some ⟨rb,0,none⟩)] w (ParP C rb d (endP [41] n l) w):=by
 have Fk:=Jh.cell 0;simp only[List.getElem?_toArray,List.getElem?_cons_zero]at Fk;have HE:=hdq (zfh C n hs l d w Gd hk h);obtain⟨R,hR⟩:=nmq (endP [41] n l);rw[<-hR];have HR:=hdq hR;have LL:=hdq Jh;have Mi:=hdq Gn;have HK:=hdq hk;have HL:=hdq h.lts;clear hR Jh Gn hs h hk;go_enter Tryz.func304,Tryz.ntmps304;go_wp2_with fail;refine HE.mono ?_;intro e w7 hE;rcases hE.ways with⟨x,r,A,c,hx,rfl,hv,hp,hf⟩|⟨c,a,hx,rfl,hf⟩;rotate_left
 ·go_wp2_with fail;exact⟨rfl,by rw[HR.out,endP,hx];exact⟨rfl,PT.l hf⟩⟩
 have FO:=Mi.lt;have Hf:=Mi.fr hf Ly;have q0:=Hf.cell 0;have q1:=Hf.cell 1;have q2:=Hf.cell 2;have q3:=Hf.cell 3;have q4:=Hf.cell 4;have g0:=Hf.frozen 0;have g1:=Hf.frozen 1;have g2:=Hf.frozen 2;have g3:=Hf.frozen 3;have g4:=Hf.frozen 4;have GY:=(LL.fr hf Gc).cell 0;simp only[getsL]at q0 q1 q2 q3 q4 GY;obtain⟨w8,GS⟩:=nmq (((((w7.setCell ⟨rb,0,none⟩ (.int .u8 x.k)).setCell ⟨rb,1,none⟩ (.string x.nm)).setCell ⟨rb,2,none⟩ (.int .i64 x.n)).setCell ⟨rb,3,none⟩ (.slice A x.args.len c)).setCell ⟨rb,4,none⟩ (.int .i64 x.at_));have GF:Fr (λb=>b=rb) w7 w8:=by rw[GS];exact Fr.own (Fr.own (Fr.own (Fr.own (Fr.own (Fr.refl _ _) _ _) _ _) _ _) _ _) _ _
 have JQ:Bk w8 rb 175 #[.int .u8 x.k,.string x.nm,.int .i64 x.n,.slice A x.args.len c,.int .i64 x.at_]:=by rw[GS];exact bk5 Hf
 have PL:ExV w8 w.heap.size (exV x.k x.nm x.n A x.args.len c x.at_) x:=ExV.fr hv GF λb h1 h2 e=>by
  have e:b=rb:=e;omega
 have NH:PaAt C w8 r d:=hp.fr GF (λe=>Ly (by have e:C.P=rb:=e;exact e.symm)) (λe=>NY (by have e:C.TB=rb:=e;exact e.symm)) (λi hi e=>by have e:i=rb:=e;omega);have PM:Fr (PT C rb) w w8:=(PT.l hf).trans (GF.mono λi _ h=>Or.inr h);have PN:w8.cell? ⟨pb,0,none⟩=some (.pointer (some ⟨C.P,0,none⟩)):=(GF.cell (p:=⟨pb,0,none⟩) (LL.fr hf Gc).lt Kf).trans GY;have Mv:=NH.alloc (.cells #[.string ⟨#[41]⟩] 9);have HX:=hdq hx;have J2:=hdq JQ;have HV:=hdq PL;have HF:=hdq PM;have HP:=hdq Mv;have HW:=hdq GS;have hz:w8.heap.size=w7.heap.size:=by rw[GS];simp
 rw[GS]at PN;cases hm:mayB [41] r
 ·have ht:=zdR C [41] r d w8.heap.size _ Mv hm (by simp);unfold ErrP zae pP at ht;rw[GS]at ht;simp only[World.size_setCell]at ht;have HT:=hdq ht;clear hx JQ PL NH PM Mv hv hp hf GF Hf GS ht hz;go_wp2_with fail;refine HT.mono ?_;rintro _ w10 ⟨rfl,Gf⟩;go_wp2_with fail;refine⟨rfl,?_⟩;rw[HR.out,endP,HX.out];simp only[PR.then,zal,hm];refine⟨rfl,?_⟩;rw[<-HW.out]at Gf;exact(HF.alloc _).trans (PT.l Gf)
 ·have ht:=zcb C [41] r d w8.heap.size _ HK.out Mv (by decide) hm (by simp);unfold zgI pP at ht;rw[GS]at ht;simp only[World.size_setCell]at ht;have HT:=hdq ht;clear hx JQ PL NH PM Mv hv hp hf GF Hf GS ht hz;go_wp2_with fail;refine HT.mono ?_;rintro _ w10 ⟨rfl,Hi,Gf⟩;have Fw:=hdq Hi;rw[<-HW.out]at Gf;have GQ:=hdq Gf;clear Hi Gf;go_wp2_with fail;go_end0;rw[HR.out,endP,HX.out];simp only[PR.then,zal,hm];have PO:Fr C.T w8 w10:=((Fr.refl C.T w8).alloc _).trans GQ.out;exact⟨rfl,⟨A,c,J2.fr PO Ly,HV.fr PO λb h1 h2 e=>by have e:b=C.P:=e;have:=HL.1;omega⟩,Fw.out,HF.trans (PT.l PO)⟩
theorem zjh (C:Pcx)(n:Nat)(hs:zdt C n)(l:List Tk)(d pb rb:Nat)(w:World)(Gd:d+n=24)(hk:C.Ok)(h:PaAt C w l d)(Jh:Bk w pb 162 #[.pointer (some ⟨C.P,0,none⟩)])(Gc:pb≠C.P)
  (Gn:Bk w rb 175 #[.int .u8 0,.string ⟨#[]⟩,.int .i64 0,.slice none 0 0,.int .i64 0]) (Ly:rb≠C.P) (NY:rb≠C.TB) (Se:C.W0.heap.size<=rb) (Kf:pb≠rb):
  Calls Tryz.prog 283 #[.pointer (some ⟨pb,0,none⟩),.pointer (some ⟨rb,0,none⟩)] w (ParP C rb d (endP [93] n l) w):=by
 have Fk:=Jh.cell 0;simp only[List.getElem?_toArray,List.getElem?_cons_zero]at Fk;have HE:=hdq (zfh C n hs l d w Gd hk h);obtain⟨R,hR⟩:=nmq (endP [93] n l);rw[<-hR];have HR:=hdq hR;have LL:=hdq Jh;have Mi:=hdq Gn;have HK:=hdq hk;have HL:=hdq h.lts;clear hR Jh Gn hs h hk;go_enter Tryz.func283,Tryz.ntmps283;go_wp2_with fail;refine HE.mono ?_;intro e w7 hE;rcases hE.ways with⟨x,r,A,c,hx,rfl,hv,hp,hf⟩|⟨c,a,hx,rfl,hf⟩;rotate_left
 ·go_wp2_with fail;exact⟨rfl,by rw[HR.out,endP,hx];exact⟨rfl,PT.l hf⟩⟩
 have FO:=Mi.lt;have Hf:=Mi.fr hf Ly;have q0:=Hf.cell 0;have q1:=Hf.cell 1;have q2:=Hf.cell 2;have q3:=Hf.cell 3;have q4:=Hf.cell 4;have g0:=Hf.frozen 0;have g1:=Hf.frozen 1;have g2:=Hf.frozen 2;have g3:=Hf.frozen 3;have g4:=Hf.frozen 4;have GY:=(LL.fr hf Gc).cell 0;simp only[getsL]at q0 q1 q2 q3 q4 GY;obtain⟨w8,GS⟩:=nmq (((((w7.setCell ⟨rb,0,none⟩ (.int .u8 x.k)).setCell ⟨rb,1,none⟩ (.string x.nm)).setCell ⟨rb,2,none⟩ (.int .i64 x.n)).setCell ⟨rb,3,none⟩ (.slice A x.args.len c)).setCell ⟨rb,4,none⟩ (.int .i64 x.at_));have GF:Fr (λb=>b=rb) w7 w8:=by rw[GS];exact Fr.own (Fr.own (Fr.own (Fr.own (Fr.own (Fr.refl _ _) _ _) _ _) _ _) _ _) _ _
 have JQ:Bk w8 rb 175 #[.int .u8 x.k,.string x.nm,.int .i64 x.n,.slice A x.args.len c,.int .i64 x.at_]:=by rw[GS];exact bk5 Hf
 have PL:ExV w8 w.heap.size (exV x.k x.nm x.n A x.args.len c x.at_) x:=ExV.fr hv GF λb h1 h2 e=>by
  have e:b=rb:=e;omega
 have NH:PaAt C w8 r d:=hp.fr GF (λe=>Ly (by have e:C.P=rb:=e;exact e.symm)) (λe=>NY (by have e:C.TB=rb:=e;exact e.symm)) (λi hi e=>by have e:i=rb:=e;omega);have PM:Fr (PT C rb) w w8:=(PT.l hf).trans (GF.mono λi _ h=>Or.inr h);have PN:w8.cell? ⟨pb,0,none⟩=some (.pointer (some ⟨C.P,0,none⟩)):=(GF.cell (p:=⟨pb,0,none⟩) (LL.fr hf Gc).lt Kf).trans GY;have Mv:=NH.alloc (.cells #[.string ⟨#[93]⟩] 9);have HX:=hdq hx;have J2:=hdq JQ;have HV:=hdq PL;have HF:=hdq PM;have HP:=hdq Mv;have HW:=hdq GS;have hz:w8.heap.size=w7.heap.size:=by rw[GS];simp
 rw[GS]at PN;cases hm:mayB [93] r
 ·have ht:=zdR C [93] r d w8.heap.size _ Mv hm (by simp);unfold ErrP zae pP at ht;rw[GS]at ht;simp only[World.size_setCell]at ht;have HT:=hdq ht;clear hx JQ PL NH PM Mv hv hp hf GF Hf GS ht hz;go_wp2_with fail;refine HT.mono ?_;rintro _ w10 ⟨rfl,Gf⟩;go_wp2_with fail;refine⟨rfl,?_⟩;rw[HR.out,endP,HX.out];simp only[PR.then,zal,hm];refine⟨rfl,?_⟩;rw[<-HW.out]at Gf;exact(HF.alloc _).trans (PT.l Gf)
 ·have ht:=zcb C [93] r d w8.heap.size _ HK.out Mv (by decide) hm (by simp);unfold zgI pP at ht;rw[GS]at ht;simp only[World.size_setCell]at ht;have HT:=hdq ht;clear hx JQ PL NH PM Mv hv hp hf GF Hf GS ht hz;go_wp2_with fail;refine HT.mono ?_;rintro _ w10 ⟨rfl,Hi,Gf⟩;have Fw:=hdq Hi;rw[<-HW.out]at Gf;have GQ:=hdq Gf;clear Hi Gf;go_wp2_with fail;go_end0;rw[HR.out,endP,HX.out];simp only[PR.then,zal,hm];have PO:Fr C.T w8 w10:=((Fr.refl C.T w8).alloc _).trans GQ.out;exact⟨rfl,⟨A,c,J2.fr PO Ly,HV.fr PO λb h1 h2 e=>by have e:b=C.P:=e;have:=HL.1;omega⟩,Fw.out,HF.trans (PT.l PO)⟩
theorem ResAt.fr {C:Pcx}{rb L:Nat}{w w':World}{x:Ex}(h:ResAt rb L w x)(hf:Fr C.T w w')(h1:rb≠C.P)(h2:C.P < L):ResAt rb L w' x:=by
 obtain⟨A,c,hb,hv⟩:=h;exact⟨A,c,hb.fr hf h1,hv.fr hf λb h3 _ e=>by have e:b=C.P:=e;omega⟩
theorem ResAt.low {rb L L':Nat}{w:World}{x:Ex}(h:ResAt rb L w x)(hl:L'<=L):ResAt rb L' w x:=by
 obtain⟨A,c,hb,hv⟩:=h;exact⟨A,c,hb,hv.low hl⟩
theorem zhk {l:List Tk}(hm:mayB [91] l=true):za3 0 l= .err 91 (hdT l).at_ :=by unfold za3 zcp;rw[if_pos hm]
theorem zji {n:Nat}{l:List Tk}(hm:mayB [91] l=false):za3 n l= .err 90 (hdT l).at_ :=by unfold za3 zcp;rw[if_neg (by rw[hm];decide)]
theorem zhl {n:Nat}{l:List Tk}(hm:mayB [91] l=true):za3 (n+1) l=endP [93] n l.tail:=by unfold za3 zcp;rw[if_pos hm];rfl
theorem zfX (C:Pcx)(n:Nat)(hs:∀m,n=m+1->zdt C m)(l:List Tk)(d:Nat)(w:World)(Gd:d+n=24)(hk:C.Ok)(h:PaAt C w l d):
  Calls Tryz.prog 246 #[.pointer (some ⟨C.P,0,none⟩)] w (ExP C d (za3 n l) w):=by
 have Jt:= @makeF Tryz.prog;have hL:=h.lts;obtain⟨w1,Hc⟩:=nmq ((w.alloc (.cells #[.pointer (some ⟨C.P,0,none⟩)] 162)).alloc (.cells #[.int .u8 0,.string ⟨#[]⟩,.int .i64 0,.slice none 0 0,.int .i64 0] 175));have Hg:Fr NoT w w1:=by rw[Hc];exact((Fr.refl _ _).alloc _).alloc _
 have Hy:w1.heap.size=w.heap.size+2:=by rw[Hc];simp
 have Gx:Bk w1 w.heap.size 162 #[.pointer (some ⟨C.P,0,none⟩)]:=by rw[Hc];exact(Bk.new _ _ _).alloc _
 have hbx:Bk w1 (w.heap.size+1) 175 #[.int .u8 0,.string ⟨#[]⟩,.int .i64 0,.slice none 0 0,.int .i64 0]:=by rw[Hc];exact Bk.new_at _ _ _ (by simp)
 have h1:=h.fr Hg id id λ_ _=>id;have Gg:=hdq Hc;have hent:=enters_of Tryz.func283 (by kernel_rfl) rfl;cases hm:mayB [91] l
 ·have hw:=zfW C [91] (.func (.func 283) #[] #[.pointer (some ⟨w.heap.size,0,none⟩),.pointer (some ⟨w.heap.size+1,0,none⟩)]) l d w1 h1 hm;rw[zji hm];rw[Hc]at hw;unfold ErrP zae pP at hw;have HW:=hdq hw;have Hs:=hdq Hg;clear hw Hc Hg Hy Gx hbx h1 h hs hk hent hm;go_enter Tryz.func246,Tryz.ntmps246;go_wp2_with fail;refine HW.mono ?_;rintro _ w2 ⟨rfl,hf⟩;go_wp2_with fail;rw[<-Gg.out]at hf;exact⟨rfl,rfl,Hs.any.trans hf⟩
 ·match n,hs,Gd with
  |0,hs,Gd=>
   obtain rfl:d=24:=by omega
   have hw:=za7 C [91] (.func (.func 283) #[] #[.pointer (some ⟨w.heap.size,0,none⟩),.pointer (some ⟨w.heap.size+1,0,none⟩)]) l w1 h1 hm;rw[zhk hm];rw[Hc]at hw;unfold ErrP zae pP at hw;have HW:=hdq hw;have Hs:=hdq Hg;clear hw Hc Hg Hy Gx hbx h1 h hs hk hent hm;go_enter Tryz.func246,Tryz.ntmps246;go_wp2_with fail;refine HW.mono ?_;rintro _ w2 ⟨rfl,hf⟩;go_wp2_with fail;rw[<-Gg.out]at hf;exact⟨rfl,rfl,Hs.any.trans hf⟩
  |n+1,hs,Gd=>
   have KS:=hs n rfl;rw[zhl hm];have FD:∀W,PaAt C W l.tail (d+1)->Fr C.T w1 W->Calls Tryz.prog 283 #[.pointer (some ⟨w.heap.size,0,none⟩),.pointer (some ⟨w.heap.size+1,0,none⟩)] W (ParP C (w.heap.size+1) (d+1) (endP [93] n l.tail) W):=λW hP hF=>
    zjh C n KS l.tail (d+1) w.heap.size (w.heap.size+1) W (by omega) hk hP (Gx.fr hF (λe=>by have e:w.heap.size=C.P:=e;omega)) (by omega) (hbx.fr hF (λe=>by have e:w.heap.size+1=C.P:=e;omega)) (by omega) (by omega) (by omega) (by omega)
   cases hr:endP [93] n l.tail with
   |err c a=>
    rw[hr]at FD;have hw:=zbm C [91] 283 #[.pointer (some ⟨w.heap.size,0,none⟩),.pointer (some ⟨w.heap.size+1,0,none⟩)] l d w1 c a (λw2=>Fr (PT C (w.heap.size+1)) w1 w2) hk h1 (by decide) hm (by omega) hent (λW hP hF=>(FD W hP hF).mono λe w2 hE=>⟨hE.1,(PT.l hF).trans hE.2⟩);rw[Hc]at hw;unfold zae pP at hw;have HW:=hdq hw;have Hs:=hdq Hg;clear hw Hc Hg Hy Gx hbx h1 h hs hk hent hm FD KS;go_enter Tryz.func246,Tryz.ntmps246;go_wp2_with fail;refine HW.mono ?_;rintro _ w2 ⟨rfl,hf⟩;go_wp2_with fail;rw[<-Gg.out]at hf;refine⟨rfl,rfl,(Hs.any.trans hf).mono λi hi e=>?_⟩;rcases e with e|e
    ·exact e
    ·omega
   |ok x r=>
    rw[hr]at FD;have hw:=zbz C [91] 283 #[.pointer (some ⟨w.heap.size,0,none⟩),.pointer (some ⟨w.heap.size+1,0,none⟩)] l d w1 (λw2=>ResAt (w.heap.size+1) (w.heap.size+2) w2 x/\PaAt C w2 r (d+1)/\Fr (PT C (w.heap.size+1)) w1 w2) hk h1 (by decide) hm (by omega) hent (λw2 h2=>⟨r,h2.2.1⟩)
     (λW hP hF=>(FD W hP hF).mono λe w2 hE=>⟨hE.1,hE.2.1.low (by rw[<-Hy];exact hF.size),hE.2.2.1,(PT.l hF).trans hE.2.2.2⟩)
    rw[Hc]at hw;unfold zbX pP at hw;have HW:=hdq hw;have Hs:=hdq Hg;have HK:=hdq hk;have HL:=hdq hL;clear hw Hc Hg Hy Gx hbx h1 h hs hk hent hm FD KS hL;go_enter Tryz.func246,Tryz.ntmps246;go_wp2_with fail;refine HW.mono ?_;rintro _ w3 ⟨rfl,w2,⟨Mj,GI,hf⟩,rfl⟩;have JR:Fr C.T w2 (w2.setCell ⟨C.P,1,none⟩ (.int .i64 d)):=(Fr.refl C.T w2).setCell (p:=⟨C.P,1,none⟩) (Or.inl C.Tp) _;have XP:=Mj.fr JR (by have:=HL.out;omega) (by have:=HL.out;omega);have J7:=GI.deep HK.out (d':=d) (v:=(d:Int)) rfl;obtain⟨A,c,Fv,Kt⟩:=XP;have q0:=Fv.cell 0;have q1:=Fv.cell 1;have q2:=Fv.cell 2;have q3:=Fv.cell 3;have q4:=Fv.cell 4;simp only[getsL]at q0 q1 q2 q3 q4;have HV:=hdq Kt;have HP:=hdq J7;rw[<-Gg.out]at hf;have HF:=hdq (((Hs.any.trans hf).trans (PT.l JR)).mono (T':=C.T) λi hi e=>by
     rcases e with e|e
     ·exact e
     ·omega)
    clear Mj GI hf JR Fv Kt J7;go_wp2_with fail;exact bodyPost_ret (v:=exV x.k x.nm x.n A x.args.len c x.at_) (by simp[results,Tryz.results246,go_sem,exV,q0,q1,q2,q3,q4]) rfl ⟨_,rfl,HV.low (by omega),HP.out,HF.out⟩
def zdV (n:Nat)(a:Int)(l:List Tk):PR Ex:=(zav n l).then λx r=> .ok ⟨4,noB,0,x.cons .nil,a⟩ r
theorem zjj {C:Pcx}{w w7:World}{rb d:Nat}{at_:Int}{x:Ex}{r:List Tk}{A:Option Addr}{c:Nat}{q0 q1 q2 q3 q4:Value}(hL:C.P < w.heap.size/\C.TB < w.heap.size/\C.W0.heap.size<=w.heap.size)(Hh:in64 at_)
  (Ly:rb≠C.P) (NY:rb≠C.TB) (Se:C.W0.heap.size<=rb) (hb:Bk w7 rb 175 #[q0,q1,q2,q3,q4]) (hv:ExV w7 w.drew.heap.size (exV x.k x.nm x.n A x.args.len c x.at_) x) (hp:PaAt C w7 r d) (hf:Fr C.T w w7) (w9:World)
  (h9:w9=((((((w7.setCell ⟨rb,0,none⟩ (.int .u8 4)).setCell ⟨rb,1,none⟩ (.string ⟨#[]⟩)).setCell ⟨rb,2,none⟩ (.int .i64 0)).setCell ⟨rb,3,none⟩ (.slice (some ⟨w7.heap.size,0,none⟩) 1 1)).setCell ⟨rb,4,none⟩ (.int .i64 at_)).alloc (.cells #[.int .u8 x.k,.string x.nm,.int .i64 x.n,.slice A x.args.len c,.int .i64 x.at_] 175)))
  (jY:rb < w.heap.size):
  ParP C rb d ((PR.ok x r).then λx r=>PR.ok ⟨4,noB,0,x.cons .nil,at_⟩ r) w (.returned (.tuple #[])) w9:=by
 obtain⟨w8,GS⟩:=nmq ((((((w7.setCell ⟨rb,0,none⟩ (.int .u8 4)).setCell ⟨rb,1,none⟩ (.string ⟨#[]⟩)).setCell ⟨rb,2,none⟩ (.int .i64 0)).setCell ⟨rb,3,none⟩ (.slice (some ⟨w7.heap.size,0,none⟩) 1 1)).setCell ⟨rb,4,none⟩ (.int .i64 at_)));rw[<-GS]at h9;have GF:Fr (λb=>b=rb) w7 w8:=by rw[GS];exact Fr.own (Fr.own (Fr.own (Fr.own (Fr.own (Fr.refl _ _) _ _) _ _) _ _) _ _) _ _
 have JQ:Bk w8 rb 175 #[.int .u8 4,.string ⟨#[]⟩,.int .i64 0,.slice (some ⟨w7.heap.size,0,none⟩) 1 1,.int .i64 at_]:=by rw[GS];exact bk5 hb
 have hz:w8.heap.size=w7.heap.size:=by rw[GS];simp
 have Gk:Fr (λb=>b=rb) w7 w9:=by rw[h9];exact GF.alloc _
 have NF:=hf.size;have Po:w9.heap.size=w7.heap.size+1:=by rw[h9];simp[hz]
 obtain⟨x1,x2,x3,Ax,cx,ex,Ju⟩:=hv;simp only[exV,Value.agg.injEq,Array.mk.injEq,List.cons.injEq,Value.slice.injEq,true_and,and_true]at ex;obtain⟨rfl,rfl⟩:=ex;refine⟨rfl,⟨some ⟨w7.heap.size,0,none⟩,1,by rw[h9];exact JQ.alloc _,by show in8 4;unfold in8;omega,by show in64 0;unfold in64;omega,Hh,_,_,rfl,lrq 1,sl1,λ_=>⟨w7.heap.size,0,rfl,?_⟩⟩,?_,?_⟩
 ·refine zje (by rw[h9];exact Bk.new_at _ _ _ hz) ⟨NF,by omega⟩ ⟨x1,x2,x3⟩ (Ju.imp λ_ _ h=>?_);refine ExR.more (λb hb=>?_) (ExR.keep (Gk.same λb hb=>⟨hb.2,λe=>?_⟩) h)
  ·have h1:w.heap.size<=b:=hb.1;have h2:=hb.2;exact⟨h1,by omega⟩
  ·have h1:w.heap.size<=b:=hb.1;omega
 ·exact hp.fr Gk (λe=>Ly (by have e:C.P=rb:=e;exact e.symm)) (λe=>NY (by have e:C.TB=rb:=e;exact e.symm)) (λi hi e=>by have e:i=rb:=e;omega)
 ·exact(PT.l hf).trans (Gk.mono λi _ h=>Or.inr h)
theorem zjk (C:Pcx)(n:Nat)(hs:zdt C n)(l:List Tk)(d pb ab rb:Nat)(at_:Int)(w:World)(Hh:in64 at_)(Gd:d+n=24)(hk:C.Ok)(h:PaAt C w l d)(Jh:Bk w pb 162 #[.pointer (some ⟨C.P,0,none⟩)])(Gc:pb≠C.P)
  (Re:Bk w ab 3 #[.int .i64 at_]) (SW:ab≠C.P) (SX:ab≠rb)
  (Gn:Bk w rb 175 #[.int .u8 0,.string ⟨#[]⟩,.int .i64 0,.slice none 0 0,.int .i64 0]) (Ly:rb≠C.P) (NY:rb≠C.TB) (Se:C.W0.heap.size<=rb) (Kf:pb≠rb):
  Calls Tryz.prog 303 #[.pointer (some ⟨pb,0,none⟩),.pointer (some ⟨ab,0,none⟩),.pointer (some ⟨rb,0,none⟩)] w (ParP C rb d (zdV n at_ l) w):=by
 have Fk:=Jh.cell 0;have PP:=Re.cell 0;simp only[List.getElem?_toArray,List.getElem?_cons_zero]at Fk PP;have Gq:=Jh.lt;have KT:=Re.lt;have FO:=Gn.lt;have HE:=hdq (hs l d w.drew Gd (h.fr (T:=NoT) (Fr.drew (Fr.refl _ _)) id id λ_ _=>id));obtain⟨R,hR⟩:=nmq (zdV n at_ l);rw[<-hR];have HR:=hdq hR;have LL:=hdq Jh;have SY:=hdq Re;have Mi:=hdq Gn;have HK:=hdq hk;have HL:=hdq h.lts;have KA:pb≠C.P:=Gc;have XQ:ab≠C.P:=SW;clear hR Jh Re Gn hs h hk;go_enter Tryz.func303,Tryz.ntmps303;go_wp2_with fail
 go_region_held2 (λW'=>W'.cell? ⟨pb,0,none⟩=some (.pointer (some ⟨C.P,0,none⟩))/\W'.cell? ⟨ab,0,none⟩=some (.int .i64 at_))
  (first
   |(refine⟨?_,?_⟩<;>with_reducible assumption)
   |(with_reducible refine⟨(Fr.cell (T:=λb=>b=rb) (w:=w7) (Fr.alloc (Fr.own (Fr.own (Fr.own (Fr.own (Fr.own (Fr.refl _ _) _ _) _ _) _ _) _ _) _ _) _) GZ Kf).trans GY,(Fr.cell (T:=λb=>b=rb) (w:=w7) (Fr.alloc (Fr.own (Fr.own (Fr.own (Fr.own (Fr.own (Fr.refl _ _) _ _) _ _) _ _) _ _) _ _) _) L1 SX).trans NI⟩)
   |(with_reducible refine⟨(Fr.cell (T:=NoT) (w:=w7) (Fr.alloc (Fr.refl _ _) _) GZ id).trans GY,(Fr.cell (T:=NoT) (w:=w7) (Fr.alloc (Fr.refl _ _) _) L1 id).trans NI⟩)
   |(with_reducible refine⟨(Fr.cell (T:=NoT) (w:=w) (Fr.drew (Fr.refl _ _)) Gq id).trans Fk,(Fr.cell (T:=NoT) (w:=w) (Fr.drew (Fr.refl _ _)) KT id).trans PP⟩))
  (first
   |(go_at_call 286
     with_reducible refine HE.out.mono ?_
     intro e w7 hE;rcases hE.ways with⟨x,r,A,c,hx,rfl,hv,hp,hf⟩|⟨c,a,hx,rfl,hf⟩;rotate_left
     ·exact⟨rfl,by rw[HR.out,zdV,hx];exact⟨rfl,PT.l ((Fr.drew (Fr.refl C.T w)).trans hf)⟩⟩
     have G6:=(Fr.drew (Fr.refl C.T w)).trans hf;have Hf:=Mi.fr G6 Ly;have q0:=Hf.cell 0;have q1:=Hf.cell 1;have q2:=Hf.cell 2;have q3:=Hf.cell 3;have q4:=Hf.cell 4;have g0:=Hf.frozen 0;have g1:=Hf.frozen 1;have g2:=Hf.frozen 2;have g3:=Hf.frozen 3;have g4:=Hf.frozen 4;have Jv:=LL.fr G6 KA;have JS:=SY.fr G6 XQ;have GY:=Jv.cell 0;have NI:=JS.cell 0;have GZ:=Jv.lt;have L1:=JS.lt;have Rf:=Hf.lt;simp only[getsL]at q0 q1 q2 q3 q4 GY NI;have HX:=hdq hx;have HV:=hdq hv;have HP:=hdq hp;have HF:=hdq G6;have HB:=hdq Hf;clear hx hv hp hf G6 Hf Jv JS))
 all_goals
  go_wp2_with fail;go_end0;rw[HR.out,zdV,HX.out];exact zjj HL.out Hh Ly NY Se HB.out HV.out HP.out HF.out _ rfl FO
theorem zbc {C:Pcx}(hk:C.Ok){w:World}{l:List Tk}{d:Nat}(h:PaAt C w l d):in64 ((hdT l).at_ :Int):=by
 obtain⟨j,cap,e,_⟩:=h.at_;have:=hk.pos _ (List.mem_of_getElem? (zaI e h.ne).1);unfold in64;omega
theorem zcc (C:Pcx)(a:Int)(w w1:World)(hw:w1=((w.alloc (.cells #[.pointer (some ⟨C.P,0,none⟩)] 162)).alloc (.cells #[.int .u8 0,.string ⟨#[]⟩,.int .i64 0,.slice none 0 0,.int .i64 0] 175)).alloc (.cells #[.int .i64 a] 3)):
  Fr NoT w w1/\w1.heap.size=w.heap.size+3/\Bk w1 w.heap.size 162 #[.pointer (some ⟨C.P,0,none⟩)]/\Bk w1 (w.heap.size+1) 175 #[.int .u8 0,.string ⟨#[]⟩,.int .i64 0,.slice none 0 0,.int .i64 0]/\Bk w1 (w.heap.size+2) 3 #[.int .i64 a]:=by
 subst hw;exact⟨(((Fr.refl _ _).alloc _).alloc _).alloc _,by simp,((Bk.new _ _ _).alloc _).alloc _,(Bk.new_at _ _ _ (by simp)).alloc _,Bk.new_at _ _ _ (by simp)⟩
theorem zdW {C:Pcx}{w w1 w2:World}{rb d L:Nat}{x:Ex}{r:List Tk}(hk:C.Ok)(hL:C.P < w.heap.size/\C.TB < w.heap.size/\C.W0.heap.size<=w.heap.size)(h1:Fr NoT w w1)(Gn:w.heap.size<=rb)(XR:w.heap.size<=L)
  (Mj:ResAt rb L w2 x) (GI:PaAt C w2 r (d+1)) (hf:Fr (PT C rb) w1 w2):
  ResAt rb w.heap.size (w2.setCell ⟨C.P,1,none⟩ (.int .i64 d)) x/\PaAt C (w2.setCell ⟨C.P,1,none⟩ (.int .i64 d)) r d/\Fr C.T w (w2.setCell ⟨C.P,1,none⟩ (.int .i64 d)):=by
 have JR:Fr C.T w2 (w2.setCell ⟨C.P,1,none⟩ (.int .i64 d)):=(Fr.refl C.T w2).setCell (p:=⟨C.P,1,none⟩) (Or.inl C.Tp) _;refine⟨(Mj.fr JR (by omega) (by omega)).low XR,GI.deep hk (d':=d) (v:=(d:Int)) rfl,((h1.any.trans hf).trans (PT.l JR)).mono λi hi e=>?_⟩;rcases e with e|e
 ·exact e
 ·omega
theorem zdA {C:Pcx}{w w1 w2:World}{rb:Nat}(h1:Fr NoT w w1)(Gn:w.heap.size<=rb)(hf:Fr (PT C rb) w1 w2):Fr C.T w w2:=
 (h1.any.trans hf).mono λi hi e=>by
  rcases e with e|e
  ·exact e
  ·omega
theorem zlo {l:List Tk}(hm:mayB [45] l=true):zav 0 l= .err 91 (hdT l).at_ :=by unfold zav;rw[if_pos hm]
theorem zhm {n:Nat}{l:List Tk}{a:Int}(hm:mayB [45] l=true)(ha:a=((hdT l).at_ :Int)):zav (n+1) l=zdV n a l.tail:=by rw[ha];unfold zav;rw[if_pos hm];rfl
theorem zlp {l:List Tk}(h0:mayB [45] l=false)(hm:mayB [40] l=true):zav 0 l= .err 91 (hdT l).at_ :=by unfold zav;rw[if_neg (by rw[h0];decide),if_pos hm]
theorem zlq {n:Nat}{l:List Tk}(h0:mayB [45] l=false)(hm:mayB [40] l=true):zav (n+1) l=endP [41] n l.tail:=by unfold zav;rw[if_neg (by rw[h0];decide),if_pos hm];rfl
-- a minus
theorem zh8 (C:Pcx)(n:Nat)(hs:∀m,n=m+1->zdt C m)(l:List Tk)(d:Nat)(w:World)(Gd:d+n=24)(hk:C.Ok)(h:PaAt C w l d)(hm:mayB [45] l=true):
  Calls Tryz.prog 286 #[.pointer (some ⟨C.P,0,none⟩)] w (ExP C d (zav n l) w):=by
 have Jt:= @makeF Tryz.prog;have hL:=h.lts;have Hh:=zbc hk h;obtain⟨j,cap,m,GK,Jq,hl,Ln,FS,hb,p0,p1,f0,f1,t0,t1,t2,ltP,ltT⟩:=h.cells;have KG:m<=9223372036854775807:=by omega
 have JP:(0:Int) < (m:Int):=by omega
 obtain⟨a,ha⟩:∃a:Int,a=(hdT l).at_ :=⟨_,rfl⟩;rw[<-ha]at t2 Hh;have HA:=hdq ha;obtain⟨w1,Hc⟩:=nmq (((w.alloc (.cells #[.pointer (some ⟨C.P,0,none⟩)] 162)).alloc (.cells #[.int .u8 0,.string ⟨#[]⟩,.int .i64 0,.slice none 0 0,.int .i64 0] 175)).alloc (.cells #[.int .i64 a] 3));obtain⟨Hg,Hy,Gx,hbx,JT⟩:=zcc C a w w1 Hc;have h1:=h.fr Hg id id λ_ _=>id;have Hs:=hdq Hg;have Gg:=hdq Hc;have HK:=hdq hk;have HL:=hdq hL;have hent:=enters_of Tryz.func303 (by kernel_rfl) rfl;have h2:=h1.alloc (.cells #[.string ⟨#[45]⟩] 9);have G4:=zcq C [45] l d (w1.heap.size) _ h2 hm (by simp);have He:Fr NoT w1 (w1.alloc (.cells #[.string ⟨#[45]⟩] 9)):=(Fr.refl NoT w1).alloc _;unfold pP at G4;rw[Hy]at G4;rw[Hc]at G4;have Lz:=hdq G4
 match n,hs,Gd with
 |0,hs,Gd=>
  obtain rfl:d=24:=by omega
  have hw:=za7 C [45] (.func (.func 303) #[] #[.pointer (some ⟨w.heap.size,0,none⟩),.pointer (some ⟨w.heap.size+1+1,0,none⟩),.pointer (some ⟨w.heap.size+1,0,none⟩)]) l _ h2 hm;rw[zlo hm];rw[Hc]at hw;unfold ErrP zae pP at hw;have HW:=hdq hw;have Hv:=hdq He;clear hw Hc Hg Hy Gx hbx JT h1 h2 h hs hk hent hm hb hl GK ha He Hh hL G4;go_enter Tryz.func286,Tryz.ntmps286;go_wp2_with fail;refine Lz.mono ?_;rintro _ wy ⟨rfl,rfl⟩;go_wp2_with fail;refine HW.mono ?_;rintro _ w3 ⟨rfl,hf⟩;go_wp2_with fail;have He:=Hv.out;rw[Gg.out]at He;exact⟨rfl,rfl,((by rw[<-Gg.out];exact Hs.any:Fr C.T w _).trans He.any).trans hf⟩
 |n+1,hs,Gd=>
  have KS:=hs n rfl;have FD:∀W,PaAt C W l.tail (d+1)->Fr C.T (w1.alloc (.cells #[.string ⟨#[45]⟩] 9)) W->Calls Tryz.prog 303 #[.pointer (some ⟨w.heap.size,0,none⟩),.pointer (some ⟨w.heap.size+2,0,none⟩),.pointer (some ⟨w.heap.size+1,0,none⟩)] W (ParP C (w.heap.size+1) (d+1) (zdV n a l.tail) W):=λW hP hF=>
   zjk C n KS l.tail (d+1) w.heap.size (w.heap.size+2) (w.heap.size+1) a W Hh (by omega) hk hP ((Gx.fr0 He).fr hF (λe=>by have e:w.heap.size=C.P:=e;omega)) (by omega) ((JT.fr0 He).fr hF (λe=>by have e:w.heap.size+2=C.P:=e;omega)) (by omega) (by omega) ((hbx.fr0 He).fr hF (λe=>by have e:w.heap.size+1=C.P:=e;omega)) (by omega) (by omega) (by omega) (by omega)
  rw[zhm hm HA.out];cases hr:zdV n a l.tail with
  |err c e=>
   rw[hr]at FD;have hw:=zbm C [45] 303 #[.pointer (some ⟨w.heap.size,0,none⟩),.pointer (some ⟨w.heap.size+1+1,0,none⟩),.pointer (some ⟨w.heap.size+1,0,none⟩)] l d _ c e (λw2=>Fr (PT C (w.heap.size+1)) w1 w2) hk h2 (by decide) hm (by omega) hent (λW hP hF=>(FD W hP hF).mono λe w2 hE=>⟨hE.1,(PT.l (He.any.trans hF)).trans hE.2⟩);rw[Hc]at hw;unfold zae pP at hw;have HW:=hdq hw;clear hw Hc Hg Hy Gx hbx JT h1 h2 h hs hk hent hm hb hl GK ha He Hh hL FD KS G4;go_enter Tryz.func286,Tryz.ntmps286;go_wp2_with fail;refine Lz.mono ?_;rintro _ wy ⟨rfl,rfl⟩;go_wp2_with fail;refine HW.mono ?_;rintro _ w3 ⟨rfl,hf⟩;go_wp2_with fail;rw[<-Gg.out]at hf;exact⟨rfl,rfl,zdA Hs.out (by omega) hf⟩
  |ok x r=>
   rw[hr]at FD;have hw:=zbz C [45] 303 #[.pointer (some ⟨w.heap.size,0,none⟩),.pointer (some ⟨w.heap.size+1+1,0,none⟩),.pointer (some ⟨w.heap.size+1,0,none⟩)] l d _ (λw2=>ResAt (w.heap.size+1) (w.heap.size+3) w2 x/\PaAt C w2 r (d+1)/\Fr (PT C (w.heap.size+1)) w1 w2) hk h2 (by decide) hm (by omega) hent (λw2 h2=>⟨r,h2.2.1⟩)
    (λW hP hF=>(FD W hP hF).mono λe w2 hE=>⟨hE.1,hE.2.1.low (by rw[<-Hy];exact leq9 He.size hF.size),hE.2.2.1,(PT.l (He.any.trans hF)).trans hE.2.2.2⟩)
   rw[Hc]at hw;unfold zbX pP at hw;have HW:=hdq hw;clear hw Hc Hg Hy Gx hbx JT h1 h2 h hs hk hent hm hb hl GK ha He Hh hL FD KS G4;go_enter Tryz.func286,Tryz.ntmps286;go_wp2_with fail;refine Lz.mono ?_;rintro _ wy ⟨rfl,rfl⟩;go_wp2_with fail;refine HW.mono ?_;rintro _ w3 ⟨rfl,w2,⟨Mj,GI,hf⟩,rfl⟩;rw[<-Gg.out]at hf;obtain⟨⟨A,c,Fv,Kt⟩,J7,Ga⟩:=zdW HK.out HL.out Hs.out (by omega) (by omega) Mj GI hf;have q0:=Fv.cell 0;have q1:=Fv.cell 1;have q2:=Fv.cell 2;have q3:=Fv.cell 3;have q4:=Fv.cell 4;simp only[getsL]at q0 q1 q2 q3 q4;have HV:=hdq Kt;have HP:=hdq J7;have HF:=hdq Ga;clear Mj GI hf Fv Kt J7 Ga;go_wp2_with fail;exact bodyPost_ret (v:=exV x.k x.nm x.n A x.args.len c x.at_) (by simp[results,Tryz.results286,go_sem,exV,q0,q1,q2,q3,q4]) rfl ⟨_,rfl,HV.out,HP.out,HF.out⟩
-- parentheses
theorem zh9 (C:Pcx)(n:Nat)(hs:∀m,n=m+1->zdt C m)(l:List Tk)(d:Nat)(w:World)(Gd:d+n=24)(hk:C.Ok)(h:PaAt C w l d)(Lm:mayB [45] l=false)(hm:mayB [40] l=true):
  Calls Tryz.prog 286 #[.pointer (some ⟨C.P,0,none⟩)] w (ExP C d (zav n l) w):=by
 have Jt:= @makeF Tryz.prog;have hL:=h.lts;have Hh:=zbc hk h;obtain⟨j,cap,m,GK,Jq,hl,Ln,FS,hb,p0,p1,f0,f1,t0,t1,t2,ltP,ltT⟩:=h.cells;have KG:m<=9223372036854775807:=by omega
 have JP:(0:Int) < (m:Int):=by omega
 obtain⟨a,ha⟩:∃a:Int,a=(hdT l).at_ :=⟨_,rfl⟩;rw[<-ha]at t2 Hh;have HA:=hdq ha;obtain⟨w1,Hc⟩:=nmq (((w.alloc (.cells #[.pointer (some ⟨C.P,0,none⟩)] 162)).alloc (.cells #[.int .u8 0,.string ⟨#[]⟩,.int .i64 0,.slice none 0 0,.int .i64 0] 175)).alloc (.cells #[.int .i64 a] 3));obtain⟨Hg,Hy,Gx,hbx,JT⟩:=zcc C a w w1 Hc;have h1:=h.fr Hg id id λ_ _=>id;have Hs:=hdq Hg;have Gg:=hdq Hc;have HK:=hdq hk;have HL:=hdq hL;have hent:=enters_of Tryz.func304 (by kernel_rfl) rfl;have PQ:=h1.alloc (.cells #[.string ⟨#[45]⟩] 9);have Ko:=zdl C [45] l d w1.heap.size _ PQ Lm (by simp);have h2:=PQ.alloc (.cells #[.string ⟨#[40]⟩] 9);have G4:=zcq C [40] l d (w1.heap.size+1) _ h2 hm (by simp);have He:Fr NoT w1 ((w1.alloc (.cells #[.string ⟨#[45]⟩] 9)).alloc (.cells #[.string ⟨#[40]⟩] 9)):=((Fr.refl NoT w1).alloc _).alloc _;unfold pP at G4 Ko;rw[Hy]at G4 Ko;rw[Hc]at G4 Ko;have Lz:=hdq G4;have SZ:=hdq Ko
 match n,hs,Gd with
 |0,hs,Gd=>
  obtain rfl:d=24:=by omega
  have hw:=za7 C [40] (.func (.func 304) #[] #[.pointer (some ⟨w.heap.size,0,none⟩),.pointer (some ⟨w.heap.size+1,0,none⟩)]) l _ h2 hm;rw[zlp Lm hm];rw[Hc]at hw;unfold ErrP zae pP at hw;have HW:=hdq hw;have Hv:=hdq He;clear hw Hc Hg Hy Gx hbx JT h1 h2 h hs hk hent hm hb hl GK ha He Hh hL G4 Ko PQ Lm;go_enter Tryz.func286,Tryz.ntmps286;go_wp2_with fail;refine SZ.mono ?_;rintro _ zf ⟨zg,Rg,rfl,rfl⟩;go_wp2_with fail;refine Lz.mono ?_;rintro _ wy ⟨rfl,rfl⟩;go_wp2_with fail;refine HW.mono ?_;rintro _ w3 ⟨rfl,hf⟩;go_wp2_with fail;have He:=Hv.out;rw[Gg.out]at He;exact⟨rfl,rfl,((by rw[<-Gg.out];exact Hs.any:Fr C.T w _).trans He.any).trans hf⟩
 |n+1,hs,Gd=>
  have KS:=hs n rfl;have FD:∀W,PaAt C W l.tail (d+1)->Fr C.T ((w1.alloc (.cells #[.string ⟨#[45]⟩] 9)).alloc (.cells #[.string ⟨#[40]⟩] 9)) W->Calls Tryz.prog 304 #[.pointer (some ⟨w.heap.size,0,none⟩),.pointer (some ⟨w.heap.size+1,0,none⟩)] W (ParP C (w.heap.size+1) (d+1) (endP [41] n l.tail) W):=λW hP hF=>
   zjg C n KS l.tail (d+1) w.heap.size (w.heap.size+1) W (by omega) hk hP ((Gx.fr0 He).fr hF (λe=>by have e:w.heap.size=C.P:=e;omega)) (by omega) ((hbx.fr0 He).fr hF (λe=>by have e:w.heap.size+1=C.P:=e;omega)) (by omega) (by omega) (by omega) (by omega)
  rw[zlq Lm hm];cases hr:endP [41] n l.tail with
  |err c e=>
   rw[hr]at FD;have hw:=zbm C [40] 304 #[.pointer (some ⟨w.heap.size,0,none⟩),.pointer (some ⟨w.heap.size+1,0,none⟩)] l d _ c e (λw2=>Fr (PT C (w.heap.size+1)) w1 w2) hk h2 (by decide) hm (by omega) hent (λW hP hF=>(FD W hP hF).mono λe w2 hE=>⟨hE.1,(PT.l (He.any.trans hF)).trans hE.2⟩);rw[Hc]at hw;unfold zae pP at hw;have HW:=hdq hw;clear hw Hc Hg Hy Gx hbx JT h1 h2 h hs hk hent hm hb hl GK ha He Hh hL FD KS G4 Ko PQ Lm;go_enter Tryz.func286,Tryz.ntmps286;go_wp2_with fail;refine SZ.mono ?_;rintro _ zf ⟨zg,Rg,rfl,rfl⟩;go_wp2_with fail;refine Lz.mono ?_;rintro _ wy ⟨rfl,rfl⟩;go_wp2_with fail;refine HW.mono ?_;rintro _ w3 ⟨rfl,hf⟩;go_wp2_with fail;rw[<-Gg.out]at hf;exact⟨rfl,rfl,zdA Hs.out (by omega) hf⟩
  |ok x r=>
   rw[hr]at FD;have hw:=zbz C [40] 304 #[.pointer (some ⟨w.heap.size,0,none⟩),.pointer (some ⟨w.heap.size+1,0,none⟩)] l d _ (λw2=>ResAt (w.heap.size+1) (w.heap.size+3) w2 x/\PaAt C w2 r (d+1)/\Fr (PT C (w.heap.size+1)) w1 w2) hk h2 (by decide) hm (by omega) hent (λw2 h2=>⟨r,h2.2.1⟩)
    (λW hP hF=>(FD W hP hF).mono λe w2 hE=>⟨hE.1,hE.2.1.low (by rw[<-Hy];exact leq9 He.size hF.size),hE.2.2.1,(PT.l (He.any.trans hF)).trans hE.2.2.2⟩)
   rw[Hc]at hw;unfold zbX pP at hw;have HW:=hdq hw;clear hw Hc Hg Hy Gx hbx JT h1 h2 h hs hk hent hm hb hl GK ha He Hh hL FD KS G4 Ko PQ Lm;go_enter Tryz.func286,Tryz.ntmps286;go_wp2_with fail;refine SZ.mono ?_;rintro _ zf ⟨zg,Rg,rfl,rfl⟩;go_wp2_with fail;refine Lz.mono ?_;rintro _ wy ⟨rfl,rfl⟩;go_wp2_with fail;refine HW.mono ?_;rintro _ w3 ⟨rfl,w2,⟨Mj,GI,hf⟩,rfl⟩;rw[<-Gg.out]at hf;obtain⟨⟨A,c,Fv,Kt⟩,J7,Ga⟩:=zdW HK.out HL.out Hs.out (by omega) (by omega) Mj GI hf;have q0:=Fv.cell 0;have q1:=Fv.cell 1;have q2:=Fv.cell 2;have q3:=Fv.cell 3;have q4:=Fv.cell 4;simp only[getsL]at q0 q1 q2 q3 q4;have HV:=hdq Kt;have HP:=hdq J7;have HF:=hdq Ga;clear Mj GI hf Fv Kt J7 Ga;go_wp2_with fail;exact bodyPost_ret (v:=exV x.k x.nm x.n A x.args.len c x.at_) (by simp[results,Tryz.results286,go_sem,exV,q0,q1,q2,q3,q4]) rfl ⟨_,rfl,HV.out,HP.out,HF.out⟩
theorem zng {n:Nat}{l:List Tk}(h0:mayB [45] l=false)(h1:mayB [40] l=false)(hn:zaJ l=false):zav n l=(zaP l).then λv r=> .ok ⟨1,noB,v,.nil,(hdT l).at_⟩ r:=by
 cases n<;>(unfold zav;rw[if_neg (by rw[h0];decide),if_neg (by rw[h1];decide),if_neg (by rw[hn];decide)])
theorem znh {n:Nat}{l:List Tk}(h0:mayB [45] l=false)(h1:mayB [40] l=false)(hn:zaJ l=true)(hb:mayB [91] l.tail=false):zav n l= .ok ⟨2,txt (hdT l),0,.nil,(hdT l).at_⟩ l.tail:=by
 cases n<;>(unfold zav;rw[if_neg (by rw[h0];decide),if_neg (by rw[h1];decide),if_pos hn,if_neg (by rw[hb];decide)])
theorem zni {n:Nat}{l:List Tk}(h0:mayB [45] l=false)(h1:mayB [40] l=false)(hn:zaJ l=true)(hb:mayB [91] l.tail=true):zav n l=(za3 n l.tail).then λx r=> .ok ⟨3,txt (hdT l),0,x.cons .nil,(hdT l).at_⟩ r:=by
 cases n with
 |zero=>
  rw[zhk hb];unfold zav;rw[if_neg (by rw[h0];decide),if_neg (by rw[h1];decide),if_pos hn,if_pos hb];rfl
 |succ n=>
  have e:zav (n+1) l=(zco (zav n) l.tail.tail).then λx r=>(zal [93] r).then λ_ r=> .ok ⟨3,txt (hdT l),0,x.cons .nil,(hdT l).at_⟩ r:=by
   unfold zav;rw[if_neg (by rw[h0];decide),if_neg (by rw[h1];decide),if_pos hn,if_pos hb]
  rw[e,zhl hb,endP,zaL];generalize zco (zav n) l.tail.tail=q;cases q with
  |err e a=>rfl
  |ok x r=>
   simp only[PR.then];generalize zal [93] r=q2;cases q2<;>rfl
theorem zeF (C:Pcx)(l:List Tk)(d:Nat)(w:World)(hk:C.Ok)(h:PaAt C w l d):Calls Tryz.prog 203 #[.pointer (some ⟨C.P,0,none⟩)] w λe w'=>
  ((hdT l).kind =2/\e= .returned (.int .i64 (decV (hdT l).text))/\PaAt C w' l.tail d/\Fr C.T w w')\/((hdT l).kind ≠2/\e= .panicked [{v:= .iface 161 (.agg #[.int .i64 90,.int .i64 (hdT l).at_]),recovered:=false}]/\Fr C.T w w'):=by
 by_cases hn:(hdT l).kind =2
 ·exact(zh6 C l d w hk h hn).mono λe w' h=> .inl ⟨hn,h⟩
 ·exact(zjc C l d w h hn).mono λe w' h=> .inr ⟨hn,h⟩
theorem zhn {C:Pcx}(hk:C.Ok){w:World}{l:List Tk}{d:Nat}(h:PaAt C w l d)(hn:(hdT l).kind =2):in64 (decV (hdT l).text :Int):=by
 obtain⟨j,cap,e,_⟩:=h.at_;have PD:=List.mem_of_getElem? (zaI e h.ne).1;have Lu:=zfQ (t:=(hdT l).text) (n:=(hdT l).text.length) (by
  rcases hk.toks _ PD with h1|h1
  ·rw[h1,hn]
  ·rw[h1.2]at hn;simp at hn) rfl
 have:=Lu.2.2;unfold in64;omega
theorem zho {C:Pcx}{w w7:World}{rb d:Nat}{k n a:Int}{nm:ByteArray}{r:List Tk}{q0 q1 q2 q3 q4:Value}(hL:C.P < w.heap.size/\C.TB < w.heap.size/\C.W0.heap.size<=w.heap.size)(h8:in8 k)(hn:in64 n)(Hh:in64 a)(Gn:w.heap.size<=rb)
  (hb:Bk w7 rb 175 #[q0,q1,q2,q3,q4]) (hp:PaAt C w7 r d) (hf:Fr C.T w w7) (w9:World)
  (h9:w9=(((((w7.setCell ⟨rb,0,none⟩ (.int .u8 k)).setCell ⟨rb,1,none⟩ (.string nm)).setCell ⟨rb,2,none⟩ (.int .i64 n)).setCell ⟨rb,3,none⟩ (.slice none 0 0)).setCell ⟨rb,4,none⟩ (.int .i64 a))):
  Bk w9 rb 175 #[.int .u8 k,.string nm,.int .i64 n,.slice none 0 0,.int .i64 a]/\ExV w9 w.heap.size (exV k nm n none 0 0 a) ⟨k,nm,n,.nil,a⟩/\PaAt C w9 r d/\Fr C.T w w9:=by
 have Gk:Fr (λb=>b=rb) w7 w9:=by rw[h9];exact Fr.own (Fr.own (Fr.own (Fr.own (Fr.own (Fr.refl _ _) _ _) _ _) _ _) _ _) _ _
 refine⟨by rw[h9];exact bk5 hb,⟨h8,hn,Hh,none,0,rfl,lrq 0,sl0,λh=>absurd h (by simp[Exs.len])⟩,hp.fr Gk (λe=>?_) (λe=>?_) (λi hi e=>?_),?_⟩
 ·have e:C.P=rb:=e;omega
 ·have e:C.TB=rb:=e;omega
 ·have e:i=rb:=e;omega
 ·rw[h9];exact Fr.high (Fr.high (Fr.high (Fr.high (Fr.high hf Gn _ _) Gn _ _) Gn _ _) Gn _ _) Gn _ _
theorem zlr {C:Pcx}{w w11:World}{rb d:Nat}{a:Int}{nm:ByteArray}{x:Ex}{r:List Tk}{A:Option Addr}{c:Nat}{q0 q3:Value}(hL:C.P < w.heap.size/\C.TB < w.heap.size/\C.W0.heap.size<=w.heap.size)(Gn:w.heap.size<=rb)(Hh:in64 a)
  (hb:Bk w11 rb 175 #[q0,.string nm,.int .i64 0,q3,.int .i64 a]) (hv:ExV w11 (rb+1) (exV x.k x.nm x.n A x.args.len c x.at_) x) (hp:PaAt C w11 r d) (hf:Fr C.T w w11):
  ∀yn,yn=((w11.setCell ⟨rb,0,none⟩ (.int .u8 3)).setCell ⟨rb,3,none⟩ (.slice (some ⟨w11.heap.size,0,none⟩) 1 1)).alloc (.cells #[.int .u8 x.k,.string x.nm,.int .i64 x.n,.slice A x.args.len c,.int .i64 x.at_] 175)->
   ExP C d ((PR.ok x r).then λx r=>PR.ok ⟨3,nm,0,x.cons .nil,a⟩ r) w (.returned (exV 3 nm 0 (some ⟨w11.heap.size,0,none⟩) 1 1 a)) yn:=by
 intro yn Ur;have Gk:Fr (λb=>b=rb) w11 yn:=by rw[Ur];exact(Fr.own (Fr.own (Fr.refl _ _) _ _) _ _).alloc _
 have Hl:=hb.lt;have hs:=hf.size;have jZ:yn.heap.size=w11.heap.size+1:=by rw[Ur];simp
 obtain⟨x1,x2,x3,Ax,cx,ex,Ju⟩:=hv;simp only[exV,Value.agg.injEq,Array.mk.injEq,List.cons.injEq,Value.slice.injEq,true_and,and_true]at ex;obtain⟨rfl,rfl⟩:=ex;refine⟨_,rfl,⟨by show in8 3;unfold in8;omega,by show in64 0;unfold in64;omega,Hh,_,_,rfl,lrq 1,sl1,λ_=>⟨w11.heap.size,0,rfl,?_⟩⟩,?_,?_⟩
 ·refine zje (by rw[Ur];exact Bk.new_at _ _ _ (by simp)) ⟨hs,by omega⟩ ⟨x1,x2,x3⟩ (Ju.imp λ_ _ h=>?_);refine ExR.more (λb hb=>?_) (ExR.keep (Gk.same λb hb=>⟨hb.2,λe=>?_⟩) h)
  ·have h1:=hb.1;have h2:=hb.2;exact⟨by omega,by omega⟩
  ·have h1:=hb.1;omega
 ·refine hp.fr Gk (λe=>?_) (λe=>?_) (λi hi e=>?_)
  ·have e:C.P=rb:=e;omega
  ·have e:C.TB=rb:=e;omega
  ·have e:i=rb:=e;omega
 ·rw[Ur];exact(Fr.high (Fr.high hf Gn _ _) Gn _ _).alloc _
theorem zls (C:Pcx)(n:Nat)(l:List Tk)(d:Nat)(w:World)(hk:C.Ok)(h:PaAt C w l d)(Lm:mayB [45] l=false)(J3:mayB [40] l=false)(Jp:zaJ l=false):
  Calls Tryz.prog 286 #[.pointer (some ⟨C.P,0,none⟩)] w (ExP C d (zav n l) w):=by
 rw[zng Lm J3 Jp];have hL:=h.lts;have Hh:=zbc hk h;have Sf:=λhn=>zhn hk h (hn:=hn);obtain⟨j,cap,m,GK,Jq,hl,Ln,FS,hb,p0,p1,f0,f1,t0,t1,t2,ltP,ltT⟩:=h.cells;have KG:m<=9223372036854775807:=by omega
 have JP:(0:Int) < (m:Int):=by omega
 obtain⟨a,ha⟩:∃a:Int,a=(hdT l).at_ :=⟨_,rfl⟩;rw[<-ha]at t2 Hh ⊢;obtain⟨w1,Hc⟩:=nmq (((w.alloc (.cells #[.pointer (some ⟨C.P,0,none⟩)] 162)).alloc (.cells #[.int .u8 0,.string ⟨#[]⟩,.int .i64 0,.slice none 0 0,.int .i64 0] 175)).alloc (.cells #[.int .i64 a] 3));obtain⟨Hg,Hy,Gx,hbx,JT⟩:=zcc C a w w1 Hc;have h1:=h.fr Hg id id λ_ _=>id;have h2:=h1.alloc (.cells #[.string ⟨#[45]⟩] 9);have h3:=h2.alloc (.cells #[.string ⟨#[40]⟩] 9);have Ko:=zdl C [45] l d w1.heap.size _ h2 Lm (by simp);have G0:=zdl C [40] l d (w1.heap.size+1) _ h3 J3 (by simp);have Ga:Fr NoT w1 ((w1.alloc (.cells #[.string ⟨#[45]⟩] 9)).alloc (.cells #[.string ⟨#[40]⟩] 9)):=((Fr.refl _ _).alloc _).alloc _;have KU:=zcG C l d _ hk h3;rw[Jp]at KU;unfold zh5 at KU;have Mf:=λW hW=>zeF C l d W hk hW;unfold pP at Ko G0 KU;rw[Hy]at Ko G0;have Gg:=hdq Hc;have Ge:=hdq (Hg.trans Ga);have Mw:=hdq (Gx.fr0 Ga);have PS:=hdq (JT.fr0 Ga);have JC:=hdq (hbx.fr0 Ga);rw[Hc]at Ko G0 KU Ge Mw PS JC;have SZ:=hdq Ko;have XS:=hdq G0;have Q3:=hdq KU;have J1:=hdq Mf;have HL:=hdq hL;have XT:=hdq Sf;have HA:=hdq ha;obtain⟨Rl,XU⟩:=nmq (zaP l);rw[<-XU];have Us:=hdq XU;clear Ko G0 KU Mf hL Sf ha XU Hc Hg Hy Gx hbx JT h1 h2 h3 Ga h hk hb hl GK Lm J3 Jp;go_enter Tryz.func286,Tryz.ntmps286;go_wp2_with fail;refine SZ.mono ?_;rintro _ zf ⟨zg,Rg,rfl,rfl⟩;go_wp2_with fail;refine XS.mono ?_;rintro _ zX ⟨zY,XV,rfl,rfl⟩;go_wp2_with fail;refine Q3.mono ?_
 rintro _ w4 ⟨rfl,LA,Hx⟩;have L2:=Mw.fr Hx (λe=>by have e:w.heap.size=C.P:=e;have:=HL.out;omega);have L3:=PS.fr Hx (λe=>by have e:w.heap.size+2=C.P:=e;have:=HL.out;omega);have PU:=JC.fr Hx (λe=>by have e:w.heap.size+1=C.P:=e;have:=HL.out;omega);have Fk:=L2.cell 0;have PP:=L3.cell 0;simp only[List.getElem?_toArray,List.getElem?_cons_zero]at Fk PP;have Gq:=L2.lt;have KT:=L3.lt;have Ut:=hdq (LA.fr (T:=NoT) (Fr.drew (Fr.refl _ _)) id id λ_ _=>id);have GN:=hdq (Ge.any.trans Hx);have LL:=hdq L2;have SY:=hdq L3;have QZ:=hdq PU;clear LA Hx L2 L3 PU;go_wp2_with fail
 go_region_held2 (λW'=>W'.cell? ⟨w.heap.size,0,none⟩=some (.pointer (some ⟨C.P,0,none⟩))/\W'.cell? ⟨w.heap.size+1+1,0,none⟩=some (.int .i64 a))
  (first
   |(refine⟨?_,?_⟩<;>with_reducible assumption)
   |(with_reducible refine⟨(Fr.cell (T:=λb=>b=w.heap.size+1) (w:=w7) (Fr.own (Fr.own (Fr.own (Fr.own (Fr.own (Fr.refl _ _) _ _) _ _) _ _) _ _) _ _) GZ Kf).trans GY,(Fr.cell (T:=λb=>b=w.heap.size+1) (w:=w7) (Fr.own (Fr.own (Fr.own (Fr.own (Fr.own (Fr.refl _ _) _ _) _ _) _ _) _ _) _ _) L1 SX).trans NI⟩)
   |(with_reducible refine⟨(Fr.cell (T:=NoT) (w:=w4) (Fr.drew (Fr.refl _ _)) Gq id).trans Fk,(Fr.cell (T:=NoT) (w:=w4) (Fr.drew (Fr.refl _ _)) KT id).trans PP⟩))
  (first
   |(go_at_call 203
     with_reducible refine(J1.out _ Ut.out).mono ?_
     intro e w7 hE;rcases hE with⟨F7,rfl,hp,hf⟩|⟨F7,rfl,hf⟩;rotate_left
     ·exact⟨rfl,by rw[Us.out,zaP,if_neg F7];exact⟨rfl,(GN.drew).trans hf⟩⟩
     have Kl:=(Fr.drew (Fr.refl C.T w4)).trans hf;have Hf:=QZ.fr Kl (λe=>by have e:w.heap.size+1=C.P:=e;have:=HL.out;omega);have q0:=Hf.cell 0;have q1:=Hf.cell 1;have q2:=Hf.cell 2;have q3:=Hf.cell 3;have q4:=Hf.cell 4;have g0:=Hf.frozen 0;have g1:=Hf.frozen 1;have g2:=Hf.frozen 2;have g3:=Hf.frozen 3;have g4:=Hf.frozen 4;have Jv:=LL.fr Kl (λe=>by have e:w.heap.size=C.P:=e;have:=HL.out;omega);have JS:=SY.fr Kl (λe=>by have e:w.heap.size+2=C.P:=e;have:=HL.out;omega);have GY:=Jv.cell 0;have NI:=JS.cell 0;have GZ:=Jv.lt;have L1:=JS.lt;have Rf:=Hf.lt;have Kf:¬w.heap.size=w.heap.size+1:=by omega
     have SX:¬w.heap.size+1+1=w.heap.size+1:=by omega
     simp only[getsL]at q0 q1 q2 q3 q4 GY NI;have Sg:=hdq F7;have HP:=hdq hp;have HF:=hdq (GN.trans Kl);have HB:=hdq Hf;clear F7 hp hf Kl Hf Jv JS))
 all_goals
  go_wp2_with fail;obtain⟨NZ,Sh,Kp,Gk⟩:=zho HL.out (k:=1) (n:=(decV (hdT l).text :Int)) (a:=a) (nm:=⟨#[]⟩) (by unfold in8;omega) (XT Sg.out) Hh (by omega) HB.out HP.out HF.out _ rfl;have HV:=hdq Sh;have XW:=hdq Kp;have KV:=hdq Gk;clear NZ Sh Kp Gk;refine bodyPost_ret (v:=exV 1 noB (decV (hdT l).text :Int) none 0 0 a) (by simp[results,Tryz.results286,go_sem,exV,noB,q0,q1,q2,q3,q4,Rf]) rfl ?_;rw[Us.out,zaP,if_pos Sg.out];exact⟨_,rfl,HV.out,XW.out,KV.out⟩
theorem zlt (C:Pcx)(n:Nat)(hs:∀m,n=m+1->zdt C m)(l:List Tk)(d:Nat)(w:World)(Gd:d+n=24)(hk:C.Ok)(h:PaAt C w l d)(Lm:mayB [45] l=false)(J3:mayB [40] l=false)(Jp:zaJ l=true):
  Calls Tryz.prog 286 #[.pointer (some ⟨C.P,0,none⟩)] w (ExP C d (zav n l) w):=by
 have hL:=h.lts;have Hh:=zbc hk h;obtain⟨R,hR⟩:=nmq (zav n l);rw[<-hR];obtain⟨j,cap,m,GK,Jq,hl,Ln,FS,hb,p0,p1,f0,f1,t0,t1,t2,ltP,ltT⟩:=h.cells;have KG:m<=9223372036854775807:=by omega
 have JP:(0:Int) < (m:Int):=by omega
 obtain⟨a,ha⟩:∃a:Int,a=(hdT l).at_ :=⟨_,rfl⟩;rw[<-ha]at t2 Hh;obtain⟨w1,Hc⟩:=nmq (((w.alloc (.cells #[.pointer (some ⟨C.P,0,none⟩)] 162)).alloc (.cells #[.int .u8 0,.string ⟨#[]⟩,.int .i64 0,.slice none 0 0,.int .i64 0] 175)).alloc (.cells #[.int .i64 a] 3));obtain⟨Hg,Hy,Gx,hbx,JT⟩:=zcc C a w w1 Hc;have h1:=h.fr Hg id id λ_ _=>id;have h2:=h1.alloc (.cells #[.string ⟨#[45]⟩] 9);have h3:=h2.alloc (.cells #[.string ⟨#[40]⟩] 9);have Ko:=zdl C [45] l d w1.heap.size _ h2 Lm (by simp);have G0:=zdl C [40] l d (w1.heap.size+1) _ h3 J3 (by simp);have Ga:Fr NoT w1 ((w1.alloc (.cells #[.string ⟨#[45]⟩] 9)).alloc (.cells #[.string ⟨#[40]⟩] 9)):=((Fr.refl _ _).alloc _).alloc _;have KU:=zcG C l d _ hk h3;rw[Jp]at KU;unfold zh5 at KU;have Mf:=λW hW=>zhi C l d W hk hW Jp;unfold RetP vaV at Mf;unfold pP at Ko G0 KU Mf;rw[Hy]at Ko G0;have Gg:=hdq Hc;have Ge:=hdq (Hg.trans Ga);have Mw:=hdq (Gx.fr0 Ga);have PS:=hdq (JT.fr0 Ga);have JC:=hdq (hbx.fr0 Ga);rw[Hc]at Ko G0 KU Ge Mw PS JC;have SZ:=hdq Ko;have XS:=hdq G0;have Q3:=hdq KU;have J1:=hdq Mf;have HL:=hdq hL;have HK:=hdq hk;have HS:=hdq hs;have HR:=hdq hR;have Ji:=hdq (λW hW=>hk.more (w:=W) (l:=l) (d:=d) hW (zdk Jp));have HA:=hdq ha;have j0:=hdq (λhb=>znh (n:=n) Lm J3 Jp hb);have j1:=hdq (λhb=>zni (n:=n) Lm J3 Jp hb);clear Ko G0 KU Mf hL ha hR hs Hc Hg Hy Gx hbx JT h1 h2 h3 Ga h hk hb hl GK Lm J3 Jp;go_enter Tryz.func286,Tryz.ntmps286
 go_wp2_with fail;refine SZ.mono ?_;rintro _ zf ⟨zg,Rg,rfl,rfl⟩;go_wp2_with fail;refine XS.mono ?_;rintro _ zX ⟨zY,XV,rfl,rfl⟩;go_wp2_with fail;refine Q3.mono ?_;rintro _ w4 ⟨rfl,LA,Hx⟩;have L2:=Mw.fr Hx (λe=>by have e:w.heap.size=C.P:=e;have:=HL.out;omega);have L3:=PS.fr Hx (λe=>by have e:w.heap.size+2=C.P:=e;have:=HL.out;omega);have PU:=JC.fr Hx (λe=>by have e:w.heap.size+1=C.P:=e;have:=HL.out;omega);have Fk:=L2.cell 0;have PP:=L3.cell 0;simp only[List.getElem?_toArray,List.getElem?_cons_zero]at Fk PP;have Gq:=L2.lt;have KT:=L3.lt;have Ut:=hdq (LA.fr (T:=NoT) (Fr.drew (Fr.refl _ _)) id id λ_ _=>id);have GN:=hdq (Ge.any.trans Hx);have LL:=hdq L2;have SY:=hdq L3;have QZ:=hdq PU;clear LA Hx L2 L3 PU;go_wp2_with fail
 go_region_held2 (λW'=>W'.cell? ⟨w.heap.size,0,none⟩=some (.pointer (some ⟨C.P,0,none⟩))/\W'.cell? ⟨w.heap.size+1+1,0,none⟩=some (.int .i64 a))
  (first
   |(refine⟨?_,?_⟩<;>with_reducible assumption)
   |(with_reducible refine⟨(Fr.cell (T:=λb=>b=w.heap.size+1) (w:=w7) (Fr.own (Fr.own (Fr.own (Fr.own (Fr.own (Fr.refl _ _) _ _) _ _) _ _) _ _) _ _) GZ Kf).trans GY,(Fr.cell (T:=λb=>b=w.heap.size+1) (w:=w7) (Fr.own (Fr.own (Fr.own (Fr.own (Fr.own (Fr.refl _ _) _ _) _ _) _ _) _ _) _ _) L1 SX).trans NI⟩)
   |(with_reducible refine⟨(Fr.cell (T:=NoT) (w:=w4) (Fr.drew (Fr.refl _ _)) Gq id).trans Fk,(Fr.cell (T:=NoT) (w:=w4) (Fr.drew (Fr.refl _ _)) KT id).trans PP⟩))
  (first
   |(go_at_call 131
     with_reducible refine(J1.out _ Ut.out).mono ?_
     intro e w7 hE;obtain⟨rfl,hp,hf⟩:=hE;have Kl:=(Fr.drew (Fr.refl C.T w4)).trans hf;have Hf:=QZ.fr Kl (λe=>by have e:w.heap.size+1=C.P:=e;have:=HL.out;omega);have q0:=Hf.cell 0;have q1:=Hf.cell 1;have q2:=Hf.cell 2;have q3:=Hf.cell 3;have q4:=Hf.cell 4;have g0:=Hf.frozen 0;have g1:=Hf.frozen 1;have g2:=Hf.frozen 2;have g3:=Hf.frozen 3;have g4:=Hf.frozen 4;have Jv:=LL.fr Kl (λe=>by have e:w.heap.size=C.P:=e;have:=HL.out;omega);have JS:=SY.fr Kl (λe=>by have e:w.heap.size+2=C.P:=e;have:=HL.out;omega);have GY:=Jv.cell 0;have NI:=JS.cell 0;have GZ:=Jv.lt;have L1:=JS.lt;have Rf:=Hf.lt;have Kf:¬w.heap.size=w.heap.size+1:=by omega
     have SX:¬w.heap.size+1+1=w.heap.size+1:=by omega
     simp only[getsL]at q0 q1 q2 q3 q4 GY NI;have HP:=hdq hp;have HF:=hdq (GN.trans Kl);have HB:=hdq Hf;clear hp hf Kl Hf Jv JS))
 all_goals
  obtain⟨w9,LK⟩:=nmq ((((((w7.setCell ⟨w.heap.size+1,0,none⟩ (.int .u8 2)).setCell ⟨w.heap.size+1,1,none⟩ (.string (txt (hdT l)))).setCell ⟨w.heap.size+1,2,none⟩ (.int .i64 0)).setCell ⟨w.heap.size+1,3,none⟩ (.slice none 0 0)).setCell ⟨w.heap.size+1,4,none⟩ (.int .i64 a)));obtain⟨NZ,Sh,Kp,Gk⟩:=zho HL.out (k:=2) (n:=0) (a:=a) (nm:=txt (hdT l)) (by unfold in8;omega) (by unfold in64;omega) Hh (by omega) HB.out HP.out HF.out w9 LK;have HV:=hdq Sh;have XW:=hdq Kp;have KV:=hdq Gk;have W3:=hdq NZ;rw[<-LK];have U8:Fr (λb=>b=w.heap.size+1) w7 w9:=by rw[LK];exact Fr.own (Fr.own (Fr.own (Fr.own (Fr.own (Fr.refl _ _) _ _) _ _) _ _) _ _) _ _
  have j2:=(U8.cell (p:=⟨w.heap.size,0,none⟩) GZ Kf).trans GY;clear NZ Sh Kp Gk LK q0 q1 q2 q3 q4 g0 g1 g2 g3 g4 U8 GY NI;have LM:=XW.alloc (.cells #[.string ⟨#[91]⟩] 9);have Fm:=W3.alloc (.cells #[.string ⟨#[91]⟩] 9);have j3:w.heap.size < w9.heap.size:=by have:=W3.lt;omega
  cases FD:mayB [91] l.tail
  ·have Je:=zdl C [91] l.tail d w9.heap.size _ LM FD (by simp);unfold pP at Je;have S0:=hdq Je;have G3:=hdq (HR.trans (j0 FD));have q0:=Fm.cell 0;have q1:=Fm.cell 1;have q2:=Fm.cell 2;have q3:=Fm.cell 3;have q4:=Fm.cell 4;simp only[getsL]at q0 q1 q2 q3 q4;have Fw:=hdq LM;clear Je FD LM Fm;go_wp2_with fail;refine S0.mono ?_;rintro _ zZ ⟨xu,j4,rfl,rfl⟩;go_wp2_with fail;refine bodyPost_ret (v:=exV 2 (txt (hdT l)) 0 none 0 0 a) (by simp[results,Tryz.results286,go_sem,exV,q0,q1,q2,q3,q4]) rfl ?_;rw[G3.out,<-HA.out];exact⟨_,rfl,ExV.fr (T:=NoT) HV.out ((Fr.refl _ _).alloc _) (λ_ _ _=>id),Fw.out,KV.alloc _⟩
  ·have Je:=zcq C [91] l.tail d w9.heap.size _ LM FD (by simp);unfold pP at Je;have S0:=hdq Je;have G3:=hdq (HR.trans (j1 FD));have XX:=hdq (zfX C n HS.out l.tail d _ Gd HK.out LM);have XY:=hdq Fm;clear Je FD LM Fm;go_wp2_with fail;refine S0.mono ?_;rintro _ zZ ⟨rfl,rfl⟩;go_wp2_with fail;refine XX.mono ?_;intro e w11 hE;rcases hE.ways with⟨x,r,A,c,hx,rfl,hv,hp,hf⟩|⟨c,e2,hx,rfl,hf⟩;rotate_left
   ·go_wp2_with fail;exact⟨rfl,by rw[G3.out,hx];exact⟨rfl,(KV.alloc _).trans hf⟩⟩
   have LB:=XY.fr hf (λe=>by have e:w.heap.size+1=C.P:=e;have:=HL.out;omega);have q0:=LB.cell 0;have q3:=LB.cell 3;have g0:=LB.frozen 0;have g3:=LB.frozen 3;have U9:=LB.lt;have q1:=LB.cell 1;have q2:=LB.cell 2;have q4:=LB.cell 4;simp only[getsL]at q0 q1 q2 q3 q4;have HX:=hdq hx;have j5:=hdq (zlr HL.out (rb:=w.heap.size+1) (by omega) Hh LB (by rw[World.size_alloc]at hv;exact hv.low (by omega)) hp ((KV.alloc _).trans hf));clear hx hv hp hf LB;go_wp2_with fail;refine bodyPost_ret (v:=exV 3 (txt (hdT l)) 0 (some ⟨w11.heap.size,0,none⟩) 1 1 a) (by simp[results,Tryz.results286,go_sem,exV,q0,q1,q2,q3,q4,U9]) rfl ?_;rw[G3.out,HX.out,<-HA.out];exact j5 _ rfl
theorem zfY (C:Pcx)(n:Nat)(hs:∀m,n=m+1->zdt C m)(l:List Tk)(d:Nat)(w:World)(Gd:d+n=24)(hk:C.Ok)(h:PaAt C w l d):Calls Tryz.prog 286 #[.pointer (some ⟨C.P,0,none⟩)] w (ExP C d (zav n l) w):=by
 cases h0:mayB [45] l
 ·cases h1:mayB [40] l
  ·cases h2:zaJ l
   ·exact zls C n l d w hk h h0 h1 h2
   ·exact zlt C n hs l d w Gd hk h h0 h1 h2
  ·exact zh9 C n hs l d w Gd hk h h0 h1
 ·exact zh8 C n hs l d w Gd hk h h0
theorem zfZ (C:Pcx)(hk:C.Ok):∀n,zdt C n:=by
 intro n
 induction n with
 |zero=>exact λl d w Gd h=>zfY C 0 (λm h=>absurd h (by omega)) l d w Gd hk h
 |succ n ih=>exact λl d w Gd h=>zfY C (n+1) (λm h=>(show n=m by omega)▸ih) l d w Gd hk h
theorem zbY (C:Pcx)(n:Nat)(l:List Tk)(d:Nat)(w:World)(Gd:d+n=24)(hk:C.Ok)(h:PaAt C w l d):Calls Tryz.prog 247 #[.pointer (some ⟨C.P,0,none⟩)] w (ExP C d (zaL n l) w):=zfh C n (zfZ C hk n) l d w Gd hk h
theorem zia (C:Pcx)(n:Nat)(l:List Tk)(d:Nat)(w:World)(Gd:d+n=24)(hk:C.Ok)(h:PaAt C w l d):Calls Tryz.prog 246 #[.pointer (some ⟨C.P,0,none⟩)] w (ExP C d (za3 n l) w):=zfX C n (λm _=>zfZ C hk m) l d w Gd hk h
