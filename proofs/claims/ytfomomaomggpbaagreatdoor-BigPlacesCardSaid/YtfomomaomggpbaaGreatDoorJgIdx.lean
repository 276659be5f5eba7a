/- parse. -/
import Derived.Test.YtfomomaomggpbaaGreatDoorJnPaC
set_option linter.all false
set_option maxHeartbeats 1600000
set_option maxRecDepth 100000
namespace Go.Proofs.YtfomomaomggpbaaGreatDoor
open Go.RowKit Go.Shelf
def PT (C:Pcx)(rb:Nat):Nat->Prop:=λb=>b=C.P\/b=rb
def ResAt (rb L:Nat)(w:World)(x:Ex):Prop:=∃A c,Bk w rb 175 #[.int .u8 x.k,.string x.nm,.int .i64 x.n,.slice A x.args.len c,.int .i64 x.at_]/\ExV w L (exV x.k x.nm x.n A x.args.len c x.at_) x
def ParP (C:Pcx)(rb d:Nat)(r:PR Ex)(W:World)(e:Ending)(w':World):Prop:=
 match r with
 | .err c a=>e=zaf c a/\Fr (PT C rb) W w'
 | .ok x l=>e= .returned (.tuple #[])/\ResAt rb W.heap.size w' x/\PaAt C w' l d/\Fr (PT C rb) W w'
theorem PT.l {C:Pcx}{rb:Nat}{W w':World}(h:Fr C.T W w'):Fr (PT C rb) W w':=h.mono λi _ h=>Or.inl h
theorem bk5 {w:World}{rb:Nat}{a b c d e:Value}{A B D E F:Value}(h:Bk w rb 175 #[a,b,c,d,e]):
  Bk (((((w.setCell ⟨rb,0,none⟩ A).setCell ⟨rb,1,none⟩ B).setCell ⟨rb,2,none⟩ D).setCell ⟨rb,3,none⟩ E).setCell ⟨rb,4,none⟩ F) rb 175 #[A,B,D,E,F]:=by
 have:=((((h.set_ 0 A).set_ 1 B).set_ 2 D).set_ 3 E).set_ 4 F;simpa using this
def endP (s:List UInt8)(n:Nat)(l:List Tk):PR Ex:=(zaO n l).then λx r=>(zal s r).then λ_ r=> .ok x r
theorem zka (C:Pcx)(n:Nat)(hs:zdJ C n)(l:List Tk)(d pb rb:Nat)(w:World)(Ga:d+n=24)(hk:C.Ok)(h:PaAt C w l d)(Ju:Bk w pb 162 #[.pointer (some ⟨C.P,0,none⟩)])(Gh:pb≠C.P)
  (Gr:Bk w rb 175 #[.int .u8 0,.string ⟨#[]⟩,.int .i64 0,.slice none 0 0,.int .i64 0]) (LV:rb≠C.P) (Pi:rb≠C.TB) (SW:C.W0.heap.size<=rb) (Kw:pb≠rb):
  Calls Tryz.prog 304 #[.pointer (some ⟨pb,0,none⟩),.pointer (some ⟨rb,0,none⟩)] w (ParP C rb d (endP [41] n l) w):=by
 have FF:=Ju.cell 0;simp only[List.getElem?_toArray,List.getElem?_cons_zero]at FF;have HE:=aA (zfL C n hs l d w Ga hk h);obtain⟨R,hR⟩:=aF (endP [41] n l);rw[<-hR];have HR:=aA hR;have L7:=aA Ju;have Mx:=aA Gr;have HK:=aA hk;have HL:=aA h.lts;clear hR Ju Gr hs h hk;go_enter Tryz.func304,Tryz.ntmps304;go_wp2_with fail;refine HE.mono ?_;intro e w7 hE;rcases hE.ways with⟨x,r,A,c,hx,rfl,hv,hp,hf⟩|⟨c,a,hx,rfl,hf⟩;rotate_left
 ·go_wp2_with fail;exact⟨rfl,by rw[HR.out,endP,hx];exact⟨rfl,PT.l hf⟩⟩
 have F6:=Mx.lt;have Hh:=Mx.fr hf LV;have q0:=Hh.cell 0;have q1:=Hh.cell 1;have q2:=Hh.cell 2;have q3:=Hh.cell 3;have q4:=Hh.cell 4;have g0:=Hh.frozen 0;have g1:=Hh.frozen 1;have g2:=Hh.frozen 2;have g3:=Hh.frozen 3;have g4:=Hh.frozen 4;have Fb:=(L7.fr hf Gh).cell 0;simp only[aD]at q0 q1 q2 q3 q4 Fb;obtain⟨w8,G3⟩:=aF (((((w7.setCell ⟨rb,0,none⟩ (.int .u8 x.k)).setCell ⟨rb,1,none⟩ (.string x.nm)).setCell ⟨rb,2,none⟩ (.int .i64 x.n)).setCell ⟨rb,3,none⟩ (.slice A x.args.len c)).setCell ⟨rb,4,none⟩ (.int .i64 x.at_));have GQ:Fr (λb=>b=rb) w7 w8:=by rw[G3];exact aJ (aJ (aJ (aJ (aJ aH))))
 have Ka:Bk w8 rb 175 #[.int .u8 x.k,.string x.nm,.int .i64 x.n,.slice A x.args.len c,.int .i64 x.at_]:=by rw[G3];exact bk5 Hh
 have Qj:ExV w8 w.heap.size (exV x.k x.nm x.n A x.args.len c x.at_) x:=ExV.fr hv GQ λb h1 h2 e=>by
  have e:b=rb:=e;omega
 have N3:PaAt C w8 r d:=hp.fr GQ (λe=>LV (by have e:C.P=rb:=e;exact e.symm)) (λe=>Pi (by have e:C.TB=rb:=e;exact e.symm)) (λi hi e=>by have e:i=rb:=e;omega);have Qk:Fr (PT C rb) w w8:=(PT.l hf).trans (GQ.mono λi _ h=>Or.inr h);have Ql:w8.cell? ⟨pb,0,none⟩=some (.pointer (some ⟨C.P,0,none⟩)):=(GQ.cell (p:=⟨pb,0,none⟩) (L7.fr hf Gh).lt Kw).trans Fb;have MJ:=N3.alloc (.cells #[.string ⟨#[41]⟩] 9);have HX:=aA hx;have F4:=aA Ka;have HV:=aA Qj;have HF:=aA Qk;have HP:=aA MJ;have HW:=aA G3;have hz:w8.heap.size=w7.heap.size:=by rw[G3];simp
 rw[G3]at Ql;cases hm:mayB [41] r
 ·have ht:=zd6 C [41] r d w8.heap.size _ MJ hm (by simp);unfold ErrP zaf pP at ht;rw[G3]at ht;simp only[World.size_setCell]at ht;have HT:=aA ht;clear hx Ka Qj N3 Qk MJ hv hp hf GQ Hh G3 ht hz;go_wp2_with fail;refine HT.mono ?_;rintro _ w10 ⟨rfl,Gm⟩;go_wp2_with fail;refine⟨rfl,?_⟩;rw[HR.out,endP,HX.out];simp only[PR.then,zal,hm];refine⟨rfl,?_⟩;rw[<-HW.out]at Gm;exact(HF.alloc _).trans (PT.l Gm)
 ·have ht:=zch C [41] r d w8.heap.size _ HK.out MJ (by decide) hm (by simp);unfold zhk pP at ht;rw[G3]at ht;simp only[World.size_setCell]at ht;have HT:=aA ht;clear hx Ka Qj N3 Qk MJ hv hp hf GQ Hh G3 ht hz;go_wp2_with fail;refine HT.mono ?_;rintro _ w10 ⟨rfl,Hj,Gm⟩;have FN:=aA Hj;rw[<-HW.out]at Gm;have G4:=aA Gm;clear Hj Gm;go_wp2_with fail;go_end0;rw[HR.out,endP,HX.out];simp only[PR.then,zal,hm];have Qm:Fr C.T w8 w10:=((Fr.refl C.T w8).alloc _).trans G4.out;exact⟨rfl,⟨A,c,F4.fr Qm LV,HV.fr Qm λb h1 h2 e=>by have e:b=C.P:=e;have:=HL.1;omega⟩,FN.out,HF.trans (PT.l Qm)⟩
theorem zkb (C:Pcx)(n:Nat)(hs:zdJ C n)(l:List Tk)(d pb rb:Nat)(w:World)(Ga:d+n=24)(hk:C.Ok)(h:PaAt C w l d)(Ju:Bk w pb 162 #[.pointer (some ⟨C.P,0,none⟩)])(Gh:pb≠C.P)
  (Gr:Bk w rb 175 #[.int .u8 0,.string ⟨#[]⟩,.int .i64 0,.slice none 0 0,.int .i64 0]) (LV:rb≠C.P) (Pi:rb≠C.TB) (SW:C.W0.heap.size<=rb) (Kw:pb≠rb):
  Calls Tryz.prog 283 #[.pointer (some ⟨pb,0,none⟩),.pointer (some ⟨rb,0,none⟩)] w (ParP C rb d (endP [93] n l) w):=by
 have FF:=Ju.cell 0;simp only[List.getElem?_toArray,List.getElem?_cons_zero]at FF;have HE:=aA (zfL C n hs l d w Ga hk h);obtain⟨R,hR⟩:=aF (endP [93] n l);rw[<-hR];have HR:=aA hR;have L7:=aA Ju;have Mx:=aA Gr;have HK:=aA hk;have HL:=aA h.lts;clear hR Ju Gr hs h hk;go_enter Tryz.func283,Tryz.ntmps283;go_wp2_with fail;refine HE.mono ?_;intro e w7 hE;rcases hE.ways with⟨x,r,A,c,hx,rfl,hv,hp,hf⟩|⟨c,a,hx,rfl,hf⟩;rotate_left
 ·go_wp2_with fail;exact⟨rfl,by rw[HR.out,endP,hx];exact⟨rfl,PT.l hf⟩⟩
 have F6:=Mx.lt;have Hh:=Mx.fr hf LV;have q0:=Hh.cell 0;have q1:=Hh.cell 1;have q2:=Hh.cell 2;have q3:=Hh.cell 3;have q4:=Hh.cell 4;have g0:=Hh.frozen 0;have g1:=Hh.frozen 1;have g2:=Hh.frozen 2;have g3:=Hh.frozen 3;have g4:=Hh.frozen 4;have Fb:=(L7.fr hf Gh).cell 0;simp only[aD]at q0 q1 q2 q3 q4 Fb;obtain⟨w8,G3⟩:=aF (((((w7.setCell ⟨rb,0,none⟩ (.int .u8 x.k)).setCell ⟨rb,1,none⟩ (.string x.nm)).setCell ⟨rb,2,none⟩ (.int .i64 x.n)).setCell ⟨rb,3,none⟩ (.slice A x.args.len c)).setCell ⟨rb,4,none⟩ (.int .i64 x.at_));have GQ:Fr (λb=>b=rb) w7 w8:=by rw[G3];exact aJ (aJ (aJ (aJ (aJ aH))))
 have Ka:Bk w8 rb 175 #[.int .u8 x.k,.string x.nm,.int .i64 x.n,.slice A x.args.len c,.int .i64 x.at_]:=by rw[G3];exact bk5 Hh
 have Qj:ExV w8 w.heap.size (exV x.k x.nm x.n A x.args.len c x.at_) x:=ExV.fr hv GQ λb h1 h2 e=>by
  have e:b=rb:=e;omega
 have N3:PaAt C w8 r d:=hp.fr GQ (λe=>LV (by have e:C.P=rb:=e;exact e.symm)) (λe=>Pi (by have e:C.TB=rb:=e;exact e.symm)) (λi hi e=>by have e:i=rb:=e;omega);have Qk:Fr (PT C rb) w w8:=(PT.l hf).trans (GQ.mono λi _ h=>Or.inr h);have Ql:w8.cell? ⟨pb,0,none⟩=some (.pointer (some ⟨C.P,0,none⟩)):=(GQ.cell (p:=⟨pb,0,none⟩) (L7.fr hf Gh).lt Kw).trans Fb;have MJ:=N3.alloc (.cells #[.string ⟨#[93]⟩] 9);have HX:=aA hx;have F4:=aA Ka;have HV:=aA Qj;have HF:=aA Qk;have HP:=aA MJ;have HW:=aA G3;have hz:w8.heap.size=w7.heap.size:=by rw[G3];simp
 rw[G3]at Ql;cases hm:mayB [93] r
 ·have ht:=zd6 C [93] r d w8.heap.size _ MJ hm (by simp);unfold ErrP zaf pP at ht;rw[G3]at ht;simp only[World.size_setCell]at ht;have HT:=aA ht;clear hx Ka Qj N3 Qk MJ hv hp hf GQ Hh G3 ht hz;go_wp2_with fail;refine HT.mono ?_;rintro _ w10 ⟨rfl,Gm⟩;go_wp2_with fail;refine⟨rfl,?_⟩;rw[HR.out,endP,HX.out];simp only[PR.then,zal,hm];refine⟨rfl,?_⟩;rw[<-HW.out]at Gm;exact(HF.alloc _).trans (PT.l Gm)
 ·have ht:=zch C [93] r d w8.heap.size _ HK.out MJ (by decide) hm (by simp);unfold zhk pP at ht;rw[G3]at ht;simp only[World.size_setCell]at ht;have HT:=aA ht;clear hx Ka Qj N3 Qk MJ hv hp hf GQ Hh G3 ht hz;go_wp2_with fail;refine HT.mono ?_;rintro _ w10 ⟨rfl,Hj,Gm⟩;have FN:=aA Hj;rw[<-HW.out]at Gm;have G4:=aA Gm;clear Hj Gm;go_wp2_with fail;go_end0;rw[HR.out,endP,HX.out];simp only[PR.then,zal,hm];have Qm:Fr C.T w8 w10:=((Fr.refl C.T w8).alloc _).trans G4.out;exact⟨rfl,⟨A,c,F4.fr Qm LV,HV.fr Qm λb h1 h2 e=>by have e:b=C.P:=e;have:=HL.1;omega⟩,FN.out,HF.trans (PT.l Qm)⟩
theorem ResAt.fr {C:Pcx}{rb L:Nat}{w w':World}{x:Ex}(h:ResAt rb L w x)(hf:Fr C.T w w')(h1:rb≠C.P)(h2:C.P < L):ResAt rb L w' x:=by
 obtain⟨A,c,hb,hv⟩:=h;exact⟨A,c,hb.fr hf h1,hv.fr hf λb h3 _ e=>by have e:b=C.P:=e;omega⟩
theorem ResAt.low {rb L L':Nat}{w:World}{x:Ex}(h:ResAt rb L w x)(hl:L'<=L):ResAt rb L' w x:=by
 obtain⟨A,c,hb,hv⟩:=h;exact⟨A,c,hb,hv.low hl⟩
theorem zh3 {l:List Tk}(hm:mayB [91] l=true):za7 0 l= .err 91 (hdT l).at_ :=by unfold za7 zcu;rw[if_pos hm]
theorem zkc {n:Nat}{l:List Tk}(hm:mayB [91] l=false):za7 n l= .err 90 (hdT l).at_ :=by unfold za7 zcu;rw[if_neg (by rw[hm];decide)]
theorem zh4 {n:Nat}{l:List Tk}(hm:mayB [91] l=true):za7 (n+1) l=endP [93] n l.tail:=by unfold za7 zcu;rw[if_pos hm];rfl
theorem zgt (C:Pcx)(n:Nat)(hs:∀m,n=m+1->zdJ C m)(l:List Tk)(d:Nat)(w:World)(Ga:d+n=24)(hk:C.Ok)(h:PaAt C w l d):
  Calls Tryz.prog 246 #[.pointer (some ⟨C.P,0,none⟩)] w (ExP C d (za7 n l) w):=by
 have JI:= @makeF Tryz.prog;have hL:=h.lts;obtain⟨w1,Hc⟩:=aF ((w.alloc (.cells #[.pointer (some ⟨C.P,0,none⟩)] 162)).alloc (.cells #[.int .u8 0,.string ⟨#[]⟩,.int .i64 0,.slice none 0 0,.int .i64 0] 175));have Hd:Fr NoT w w1:=by rw[Hc];exact(aH.alloc _).alloc _
 have Hw:w1.heap.size=w.heap.size+2:=by rw[Hc];simp
 have GD:Bk w1 w.heap.size 162 #[.pointer (some ⟨C.P,0,none⟩)]:=by rw[Hc];exact(Bk.new _ _ _).alloc _
 have hbx:Bk w1 (w.heap.size+1) 175 #[.int .u8 0,.string ⟨#[]⟩,.int .i64 0,.slice none 0 0,.int .i64 0]:=by rw[Hc];exact Bk.new_at _ _ _ (by simp)
 have h1:=h.fr Hd id id λ_ _=>id;have Ge:=aA Hc;have hent:=enters_of Tryz.func283 (by kernel_rfl) rfl;cases hm:mayB [91] l
 ·have hw:=zgs C [91] (.func (.func 283) #[] #[.pointer (some ⟨w.heap.size,0,none⟩),.pointer (some ⟨w.heap.size+1,0,none⟩)]) l d w1 h1 hm;rw[zkc hm];rw[Hc]at hw;unfold ErrP zaf pP at hw;have HW:=aA hw;have Hl:=aA Hd;clear hw Hc Hd Hw GD hbx h1 h hs hk hent hm;go_enter Tryz.func246,Tryz.ntmps246;go_wp2_with fail;refine HW.mono ?_;rintro _ w2 ⟨rfl,hf⟩;go_wp2_with fail;rw[<-Ge.out]at hf;exact⟨rfl,rfl,Hl.any.trans hf⟩
 ·match n,hs,Ga with
  |0,hs,Ga=>
   obtain rfl:d=24:=by omega
   have hw:=za9 C [91] (.func (.func 283) #[] #[.pointer (some ⟨w.heap.size,0,none⟩),.pointer (some ⟨w.heap.size+1,0,none⟩)]) l w1 h1 hm;rw[zh3 hm];rw[Hc]at hw;unfold ErrP zaf pP at hw;have HW:=aA hw;have Hl:=aA Hd;clear hw Hc Hd Hw GD hbx h1 h hs hk hent hm;go_enter Tryz.func246,Tryz.ntmps246;go_wp2_with fail;refine HW.mono ?_;rintro _ w2 ⟨rfl,hf⟩;go_wp2_with fail;rw[<-Ge.out]at hf;exact⟨rfl,rfl,Hl.any.trans hf⟩
  |n+1,hs,Ga=>
   have Lg:=hs n rfl;rw[zh4 hm];have FT:∀W,PaAt C W l.tail (d+1)->Fr C.T w1 W->Calls Tryz.prog 283 #[.pointer (some ⟨w.heap.size,0,none⟩),.pointer (some ⟨w.heap.size+1,0,none⟩)] W (ParP C (w.heap.size+1) (d+1) (endP [93] n l.tail) W):=λW hP hF=>
    zkb C n Lg l.tail (d+1) w.heap.size (w.heap.size+1) W (by omega) hk hP (GD.fr hF (λe=>by have e:w.heap.size=C.P:=e;omega)) (by omega) (hbx.fr hF (λe=>by have e:w.heap.size+1=C.P:=e;omega)) (by omega) (by omega) (by omega) (by omega)
   cases hr:endP [93] n l.tail with
   |err c a=>
    rw[hr]at FT;have hw:=zbn C [91] 283 #[.pointer (some ⟨w.heap.size,0,none⟩),.pointer (some ⟨w.heap.size+1,0,none⟩)] l d w1 c a (λw2=>Fr (PT C (w.heap.size+1)) w1 w2) hk h1 (by decide) hm (by omega) hent (λW hP hF=>(FT W hP hF).mono λe w2 hE=>⟨hE.1,(PT.l hF).trans hE.2⟩);rw[Hc]at hw;unfold zaf pP at hw;have HW:=aA hw;have Hl:=aA Hd;clear hw Hc Hd Hw GD hbx h1 h hs hk hent hm FT Lg;go_enter Tryz.func246,Tryz.ntmps246;go_wp2_with fail;refine HW.mono ?_;rintro _ w2 ⟨rfl,hf⟩;go_wp2_with fail;rw[<-Ge.out]at hf;refine⟨rfl,rfl,(Hl.any.trans hf).mono λi hi e=>?_⟩;rcases e with e|e
    ·exact e
    ·omega
   |ok x r=>
    rw[hr]at FT;have hw:=zbE C [91] 283 #[.pointer (some ⟨w.heap.size,0,none⟩),.pointer (some ⟨w.heap.size+1,0,none⟩)] l d w1 (λw2=>ResAt (w.heap.size+1) (w.heap.size+2) w2 x/\PaAt C w2 r (d+1)/\Fr (PT C (w.heap.size+1)) w1 w2) hk h1 (by decide) hm (by omega) hent (λw2 h2=>⟨r,h2.2.1⟩)
     (λW hP hF=>(FT W hP hF).mono λe w2 hE=>⟨hE.1,hE.2.1.low (by rw[<-Hw];exact hF.size),hE.2.2.1,(PT.l hF).trans hE.2.2.2⟩)
    rw[Hc]at hw;unfold zb4 pP at hw;have HW:=aA hw;have Hl:=aA Hd;have HK:=aA hk;have HL:=aA hL;clear hw Hc Hd Hw GD hbx h1 h hs hk hent hm FT Lg hL;go_enter Tryz.func246,Tryz.ntmps246;go_wp2_with fail;refine HW.mono ?_;rintro _ w3 ⟨rfl,w2,⟨My,GP,hf⟩,rfl⟩;have Kb:Fr C.T w2 (w2.setCell ⟨C.P,1,none⟩ (.int .i64 d)):=(Fr.refl C.T w2).setCell (p:=⟨C.P,1,none⟩) (Or.inl C.Tp) _;have YV:=My.fr Kb (by have:=HL.out;omega) (by have:=HL.out;omega);have Kq:=GP.deep HK.out (d':=d) (v:=(d:Int)) rfl;obtain⟨A,c,FL,KL⟩:=YV;have q0:=FL.cell 0;have q1:=FL.cell 1;have q2:=FL.cell 2;have q3:=FL.cell 3;have q4:=FL.cell 4;simp only[aD]at q0 q1 q2 q3 q4;have HV:=aA KL;have HP:=aA Kq;rw[<-Ge.out]at hf;have HF:=aA (((Hl.any.trans hf).trans (PT.l Kb)).mono (T':=C.T) λi hi e=>by
     rcases e with e|e
     ·exact e
     ·omega)
    clear My GP hf Kb FL KL Kq;go_wp2_with fail;exact bodyPost_ret (v:=exV x.k x.nm x.n A x.args.len c x.at_) (by simp[results,Tryz.results246,go_sem,exV,q0,q1,q2,q3,q4]) rfl ⟨_,rfl,HV.low (by omega),HP.out,HF.out⟩
def zea (n:Nat)(a:Int)(l:List Tk):PR Ex:=(zaw n l).then λx r=> .ok ⟨4,noB,0,x.cons .nil,a⟩ r
theorem zkd {C:Pcx}{w w7:World}{rb d:Nat}{at_:Int}{x:Ex}{r:List Tk}{A:Option Addr}{c:Nat}{q0 q1 q2 q3 q4:Value}(hL:C.P < w.heap.size/\C.TB < w.heap.size/\C.W0.heap.size<=w.heap.size)(Hg:in64 at_)
  (LV:rb≠C.P) (Pi:rb≠C.TB) (SW:C.W0.heap.size<=rb) (hb:Bk w7 rb 175 #[q0,q1,q2,q3,q4]) (hv:ExV w7 w.drew.heap.size (exV x.k x.nm x.n A x.args.len c x.at_) x) (hp:PaAt C w7 r d) (hf:Fr C.T w w7) (w9:World)
  (h9:w9=((((((w7.setCell ⟨rb,0,none⟩ (.int .u8 4)).setCell ⟨rb,1,none⟩ (.string ⟨#[]⟩)).setCell ⟨rb,2,none⟩ (.int .i64 0)).setCell ⟨rb,3,none⟩ (.slice (some ⟨w7.heap.size,0,none⟩) 1 1)).setCell ⟨rb,4,none⟩ (.int .i64 at_)).alloc (.cells #[.int .u8 x.k,.string x.nm,.int .i64 x.n,.slice A x.args.len c,.int .i64 x.at_] 175)))
  (qJ:rb < w.heap.size):
  ParP C rb d ((PR.ok x r).then λx r=>PR.ok ⟨4,noB,0,x.cons .nil,at_⟩ r) w (.returned (.tuple #[])) w9:=by
 obtain⟨w8,G3⟩:=aF ((((((w7.setCell ⟨rb,0,none⟩ (.int .u8 4)).setCell ⟨rb,1,none⟩ (.string ⟨#[]⟩)).setCell ⟨rb,2,none⟩ (.int .i64 0)).setCell ⟨rb,3,none⟩ (.slice (some ⟨w7.heap.size,0,none⟩) 1 1)).setCell ⟨rb,4,none⟩ (.int .i64 at_)));rw[<-G3]at h9;have GQ:Fr (λb=>b=rb) w7 w8:=by rw[G3];exact aJ (aJ (aJ (aJ (aJ aH))))
 have Ka:Bk w8 rb 175 #[.int .u8 4,.string ⟨#[]⟩,.int .i64 0,.slice (some ⟨w7.heap.size,0,none⟩) 1 1,.int .i64 at_]:=by rw[G3];exact bk5 hb
 have hz:w8.heap.size=w7.heap.size:=by rw[G3];simp
 have Gl:Fr (λb=>b=rb) w7 w9:=by rw[h9];exact GQ.alloc _
 have N1:=hf.size;have PP:w9.heap.size=w7.heap.size+1:=by rw[h9];simp[hz]
 obtain⟨x1,x2,x3,Ax,cx,ex,JJ⟩:=hv;simp only[exV,Value.agg.injEq,Array.mk.injEq,List.cons.injEq,Value.slice.injEq,true_and,and_true]at ex;obtain⟨rfl,rfl⟩:=ex;refine⟨rfl,⟨some ⟨w7.heap.size,0,none⟩,1,by rw[h9];exact Ka.alloc _,by show in8 4;unfold in8;omega,by show in64 0;unfold in64;omega,Hg,_,_,rfl,aL 1,sl1,λ_=>⟨w7.heap.size,0,rfl,?_⟩⟩,?_,?_⟩
 ·refine zj8 (by rw[h9];exact Bk.new_at _ _ _ hz) ⟨N1,by omega⟩ ⟨x1,x2,x3⟩ (JJ.imp λ_ _ h=>?_);refine ExR.more (λb hb=>?_) (ExR.keep (Gl.same λb hb=>⟨hb.2,λe=>?_⟩) h)
  ·have h1:w.heap.size<=b:=hb.1;have h2:=hb.2;exact⟨h1,by omega⟩
  ·have h1:w.heap.size<=b:=hb.1;omega
 ·exact hp.fr Gl (λe=>LV (by have e:C.P=rb:=e;exact e.symm)) (λe=>Pi (by have e:C.TB=rb:=e;exact e.symm)) (λi hi e=>by have e:i=rb:=e;omega)
 ·exact(PT.l hf).trans (Gl.mono λi _ h=>Or.inr h)
theorem zke (C:Pcx)(n:Nat)(hs:zdJ C n)(l:List Tk)(d pb ab rb:Nat)(at_:Int)(w:World)(Hg:in64 at_)(Ga:d+n=24)(hk:C.Ok)(h:PaAt C w l d)(Ju:Bk w pb 162 #[.pointer (some ⟨C.P,0,none⟩)])(Gh:pb≠C.P)
  (RN:Bk w ab 3 #[.int .i64 at_]) (TD:ab≠C.P) (TE:ab≠rb)
  (Gr:Bk w rb 175 #[.int .u8 0,.string ⟨#[]⟩,.int .i64 0,.slice none 0 0,.int .i64 0]) (LV:rb≠C.P) (Pi:rb≠C.TB) (SW:C.W0.heap.size<=rb) (Kw:pb≠rb):
  Calls Tryz.prog 303 #[.pointer (some ⟨pb,0,none⟩),.pointer (some ⟨ab,0,none⟩),.pointer (some ⟨rb,0,none⟩)] w (ParP C rb d (zea n at_ l) w):=by
 have FF:=Ju.cell 0;have Qn:=RN.cell 0;simp only[List.getElem?_toArray,List.getElem?_cons_zero]at FF Qn;have Gt:=Ju.lt;have Lh:=RN.lt;have F6:=Gr.lt;have HE:=aA (hs l d w.drew Ga (h.fr (T:=NoT) (Fr.drew aH) id id λ_ _=>id));obtain⟨R,hR⟩:=aF (zea n at_ l);rw[<-hR];have HR:=aA hR;have L7:=aA Ju;have TF:=aA RN;have Mx:=aA Gr;have HK:=aA hk;have HL:=aA h.lts;have KX:pb≠C.P:=Gh;have YW:ab≠C.P:=TD;clear hR Ju RN Gr hs h hk;go_enter Tryz.func303,Tryz.ntmps303;go_wp2_with fail
 go_region_held2 (λW'=>W'.cell? ⟨pb,0,none⟩=some (.pointer (some ⟨C.P,0,none⟩))/\W'.cell? ⟨ab,0,none⟩=some (.int .i64 at_))
  (first
   |(refine⟨?_,?_⟩<;>with_reducible assumption)
   |(with_reducible refine⟨(Fr.cell (T:=λb=>b=rb) (w:=w7) (Fr.alloc (aJ (aJ (aJ (aJ (aJ aH))))) _) Fc Kw).trans Fb,(Fr.cell (T:=λb=>b=rb) (w:=w7) (Fr.alloc (aJ (aJ (aJ (aJ (aJ aH))))) _) Mj TE).trans N4⟩)
   |(with_reducible refine⟨(Fr.cell (T:=NoT) (w:=w7) (Fr.alloc aH _) Fc id).trans Fb,(Fr.cell (T:=NoT) (w:=w7) (Fr.alloc aH _) Mj id).trans N4⟩)
   |(with_reducible refine⟨(Fr.cell (T:=NoT) (w:=w) (Fr.drew aH) Gt id).trans FF,(Fr.cell (T:=NoT) (w:=w) (Fr.drew aH) Lh id).trans Qn⟩))
  (first
   |(go_at_call 286
     with_reducible refine HE.out.mono ?_
     intro e w7 hE;rcases hE.ways with⟨x,r,A,c,hx,rfl,hv,hp,hf⟩|⟨c,a,hx,rfl,hf⟩;rotate_left
     ·exact⟨rfl,by rw[HR.out,zea,hx];exact⟨rfl,PT.l ((Fr.drew (Fr.refl C.T w)).trans hf)⟩⟩
     have Fl:=(Fr.drew (Fr.refl C.T w)).trans hf;have Hh:=Mx.fr Fl LV;have q0:=Hh.cell 0;have q1:=Hh.cell 1;have q2:=Hh.cell 2;have q3:=Hh.cell 3;have q4:=Hh.cell 4;have g0:=Hh.frozen 0;have g1:=Hh.frozen 1;have g2:=Hh.frozen 2;have g3:=Hh.frozen 3;have g4:=Hh.frozen 4;have JK:=L7.fr Fl KX;have Kc:=TF.fr Fl YW;have Fb:=JK.cell 0;have N4:=Kc.cell 0;have Fc:=JK.lt;have Mj:=Kc.lt;have RO:=Hh.lt;simp only[aD]at q0 q1 q2 q3 q4 Fb N4;have HX:=aA hx;have HV:=aA hv;have HP:=aA hp;have HF:=aA Fl;have HB:=aA Hh;clear hx hv hp hf Fl Hh JK Kc))
 all_goals
  go_wp2_with fail;go_end0;rw[HR.out,zea,HX.out];exact zkd HL.out Hg LV Pi SW HB.out HV.out HP.out HF.out _ rfl F6
theorem zbf {C:Pcx}(hk:C.Ok){w:World}{l:List Tk}{d:Nat}(h:PaAt C w l d):in64 ((hdT l).at_ :Int):=by
 obtain⟨j,cap,e,_⟩:=h.at_;have:=hk.pos _ (List.mem_of_getElem? (zaH e h.ne).1);unfold in64;omega
theorem zci (C:Pcx)(a:Int)(w w1:World)(hw:w1=((w.alloc (.cells #[.pointer (some ⟨C.P,0,none⟩)] 162)).alloc (.cells #[.int .u8 0,.string ⟨#[]⟩,.int .i64 0,.slice none 0 0,.int .i64 0] 175)).alloc (.cells #[.int .i64 a] 3)):
  Fr NoT w w1/\w1.heap.size=w.heap.size+3/\Bk w1 w.heap.size 162 #[.pointer (some ⟨C.P,0,none⟩)]/\Bk w1 (w.heap.size+1) 175 #[.int .u8 0,.string ⟨#[]⟩,.int .i64 0,.slice none 0 0,.int .i64 0]/\Bk w1 (w.heap.size+2) 3 #[.int .i64 a]:=by
 subst hw;exact⟨((aH.alloc _).alloc _).alloc _,by simp,((Bk.new _ _ _).alloc _).alloc _,(Bk.new_at _ _ _ (by simp)).alloc _,Bk.new_at _ _ _ (by simp)⟩
theorem zeb {C:Pcx}{w w1 w2:World}{rb d L:Nat}{x:Ex}{r:List Tk}(hk:C.Ok)(hL:C.P < w.heap.size/\C.TB < w.heap.size/\C.W0.heap.size<=w.heap.size)(h1:Fr NoT w w1)(Gr:w.heap.size<=rb)(YX:w.heap.size<=L)
  (My:ResAt rb L w2 x) (GP:PaAt C w2 r (d+1)) (hf:Fr (PT C rb) w1 w2):
  ResAt rb w.heap.size (w2.setCell ⟨C.P,1,none⟩ (.int .i64 d)) x/\PaAt C (w2.setCell ⟨C.P,1,none⟩ (.int .i64 d)) r d/\Fr C.T w (w2.setCell ⟨C.P,1,none⟩ (.int .i64 d)):=by
 have Kb:Fr C.T w2 (w2.setCell ⟨C.P,1,none⟩ (.int .i64 d)):=(Fr.refl C.T w2).setCell (p:=⟨C.P,1,none⟩) (Or.inl C.Tp) _;refine⟨(My.fr Kb (by omega) (by omega)).low YX,GP.deep hk (d':=d) (v:=(d:Int)) rfl,((h1.any.trans hf).trans (PT.l Kb)).mono λi hi e=>?_⟩;rcases e with e|e
 ·exact e
 ·omega
theorem zdP {C:Pcx}{w w1 w2:World}{rb:Nat}(h1:Fr NoT w w1)(Gr:w.heap.size<=rb)(hf:Fr (PT C rb) w1 w2):Fr C.T w w2:=
 (h1.any.trans hf).mono λi hi e=>by
  rcases e with e|e
  ·exact e
  ·omega
theorem zmv {l:List Tk}(hm:mayB [45] l=true):zaw 0 l= .err 91 (hdT l).at_ :=by unfold zaw;rw[if_pos hm]
theorem zh5 {n:Nat}{l:List Tk}{a:Int}(hm:mayB [45] l=true)(ha:a=((hdT l).at_ :Int)):zaw (n+1) l=zea n a l.tail:=by rw[ha];unfold zaw;rw[if_pos hm];rfl
theorem zmw {l:List Tk}(h0:mayB [45] l=false)(hm:mayB [40] l=true):zaw 0 l= .err 91 (hdT l).at_ :=by unfold zaw;rw[if_neg (by rw[h0];decide),if_pos hm]
theorem zmx {n:Nat}{l:List Tk}(h0:mayB [45] l=false)(hm:mayB [40] l=true):zaw (n+1) l=endP [41] n l.tail:=by unfold zaw;rw[if_neg (by rw[h0];decide),if_pos hm];rfl
-- a minus
theorem ziW (C:Pcx)(n:Nat)(hs:∀m,n=m+1->zdJ C m)(l:List Tk)(d:Nat)(w:World)(Ga:d+n=24)(hk:C.Ok)(h:PaAt C w l d)(hm:mayB [45] l=true):
  Calls Tryz.prog 286 #[.pointer (some ⟨C.P,0,none⟩)] w (ExP C d (zaw n l) w):=by
 have JI:= @makeF Tryz.prog;have hL:=h.lts;have Hg:=zbf hk h;obtain⟨j,cap,m,GW,Jn,hl,F9,G7,hb,p0,p1,f0,f1,t0,t1,t2,ltP,ltT⟩:=h.cells;have JY:m<=9223372036854775807:=by omega
 have JU:(0:Int) < (m:Int):=by omega
 obtain⟨a,ha⟩:∃a:Int,a=(hdT l).at_ :=⟨_,rfl⟩;rw[<-ha]at t2 Hg;have HA:=aA ha;obtain⟨w1,Hc⟩:=aF (((w.alloc (.cells #[.pointer (some ⟨C.P,0,none⟩)] 162)).alloc (.cells #[.int .u8 0,.string ⟨#[]⟩,.int .i64 0,.slice none 0 0,.int .i64 0] 175)).alloc (.cells #[.int .i64 a] 3));obtain⟨Hd,Hw,GD,hbx,Kd⟩:=zci C a w w1 Hc;have h1:=h.fr Hd id id λ_ _=>id;have Hl:=aA Hd;have Ge:=aA Hc;have HK:=aA hk;have HL:=aA hL;have hent:=enters_of Tryz.func303 (by kernel_rfl) rfl;have h2:=h1.alloc (.cells #[.string ⟨#[45]⟩] 9);have Fi:=zcv C [45] l d (w1.heap.size) _ h2 hm (by simp);have He:Fr NoT w1 (w1.alloc (.cells #[.string ⟨#[45]⟩] 9)):=(Fr.refl NoT w1).alloc _;unfold pP at Fi;rw[Hw]at Fi;rw[Hc]at Fi;have LW:=aA Fi
 match n,hs,Ga with
 |0,hs,Ga=>
  obtain rfl:d=24:=by omega
  have hw:=za9 C [45] (.func (.func 303) #[] #[.pointer (some ⟨w.heap.size,0,none⟩),.pointer (some ⟨w.heap.size+1+1,0,none⟩),.pointer (some ⟨w.heap.size+1,0,none⟩)]) l _ h2 hm;rw[zmv hm];rw[Hc]at hw;unfold ErrP zaf pP at hw;have HW:=aA hw;have Hu:=aA He;clear hw Hc Hd Hw GD hbx Kd h1 h2 h hs hk hent hm hb hl GW ha He Hg hL Fi;go_enter Tryz.func286,Tryz.ntmps286;go_wp2_with fail;refine LW.mono ?_;rintro _ wy ⟨rfl,rfl⟩;go_wp2_with fail;refine HW.mono ?_;rintro _ w3 ⟨rfl,hf⟩;go_wp2_with fail;have He:=Hu.out;rw[Ge.out]at He;exact⟨rfl,rfl,((by rw[<-Ge.out];exact Hl.any:Fr C.T w _).trans He.any).trans hf⟩
 |n+1,hs,Ga=>
  have Lg:=hs n rfl;have FT:∀W,PaAt C W l.tail (d+1)->Fr C.T (w1.alloc (.cells #[.string ⟨#[45]⟩] 9)) W->Calls Tryz.prog 303 #[.pointer (some ⟨w.heap.size,0,none⟩),.pointer (some ⟨w.heap.size+2,0,none⟩),.pointer (some ⟨w.heap.size+1,0,none⟩)] W (ParP C (w.heap.size+1) (d+1) (zea n a l.tail) W):=λW hP hF=>
   zke C n Lg l.tail (d+1) w.heap.size (w.heap.size+2) (w.heap.size+1) a W Hg (by omega) hk hP ((GD.fr0 He).fr hF (λe=>by have e:w.heap.size=C.P:=e;omega)) (by omega) ((Kd.fr0 He).fr hF (λe=>by have e:w.heap.size+2=C.P:=e;omega)) (by omega) (by omega) ((hbx.fr0 He).fr hF (λe=>by have e:w.heap.size+1=C.P:=e;omega)) (by omega) (by omega) (by omega) (by omega)
  rw[zh5 hm HA.out];cases hr:zea n a l.tail with
  |err c e=>
   rw[hr]at FT;have hw:=zbn C [45] 303 #[.pointer (some ⟨w.heap.size,0,none⟩),.pointer (some ⟨w.heap.size+1+1,0,none⟩),.pointer (some ⟨w.heap.size+1,0,none⟩)] l d _ c e (λw2=>Fr (PT C (w.heap.size+1)) w1 w2) hk h2 (by decide) hm (by omega) hent (λW hP hF=>(FT W hP hF).mono λe w2 hE=>⟨hE.1,(PT.l (He.any.trans hF)).trans hE.2⟩);rw[Hc]at hw;unfold zaf pP at hw;have HW:=aA hw;clear hw Hc Hd Hw GD hbx Kd h1 h2 h hs hk hent hm hb hl GW ha He Hg hL FT Lg Fi;go_enter Tryz.func286,Tryz.ntmps286;go_wp2_with fail;refine LW.mono ?_;rintro _ wy ⟨rfl,rfl⟩;go_wp2_with fail;refine HW.mono ?_;rintro _ w3 ⟨rfl,hf⟩;go_wp2_with fail;rw[<-Ge.out]at hf;exact⟨rfl,rfl,zdP Hl.out (by omega) hf⟩
  |ok x r=>
   rw[hr]at FT;have hw:=zbE C [45] 303 #[.pointer (some ⟨w.heap.size,0,none⟩),.pointer (some ⟨w.heap.size+1+1,0,none⟩),.pointer (some ⟨w.heap.size+1,0,none⟩)] l d _ (λw2=>ResAt (w.heap.size+1) (w.heap.size+3) w2 x/\PaAt C w2 r (d+1)/\Fr (PT C (w.heap.size+1)) w1 w2) hk h2 (by decide) hm (by omega) hent (λw2 h2=>⟨r,h2.2.1⟩)
    (λW hP hF=>(FT W hP hF).mono λe w2 hE=>⟨hE.1,hE.2.1.low (by rw[<-Hw];exact aK He.size hF.size),hE.2.2.1,(PT.l (He.any.trans hF)).trans hE.2.2.2⟩)
   rw[Hc]at hw;unfold zb4 pP at hw;have HW:=aA hw;clear hw Hc Hd Hw GD hbx Kd h1 h2 h hs hk hent hm hb hl GW ha He Hg hL FT Lg Fi;go_enter Tryz.func286,Tryz.ntmps286;go_wp2_with fail;refine LW.mono ?_;rintro _ wy ⟨rfl,rfl⟩;go_wp2_with fail;refine HW.mono ?_;rintro _ w3 ⟨rfl,w2,⟨My,GP,hf⟩,rfl⟩;rw[<-Ge.out]at hf;obtain⟨⟨A,c,FL,KL⟩,Kq,Gg⟩:=zeb HK.out HL.out Hl.out (by omega) (by omega) My GP hf;have q0:=FL.cell 0;have q1:=FL.cell 1;have q2:=FL.cell 2;have q3:=FL.cell 3;have q4:=FL.cell 4;simp only[aD]at q0 q1 q2 q3 q4;have HV:=aA KL;have HP:=aA Kq;have HF:=aA Gg;clear My GP hf FL KL Kq Gg;go_wp2_with fail;exact bodyPost_ret (v:=exV x.k x.nm x.n A x.args.len c x.at_) (by simp[results,Tryz.results286,go_sem,exV,q0,q1,q2,q3,q4]) rfl ⟨_,rfl,HV.out,HP.out,HF.out⟩
-- parentheses
theorem ziX (C:Pcx)(n:Nat)(hs:∀m,n=m+1->zdJ C m)(l:List Tk)(d:Nat)(w:World)(Ga:d+n=24)(hk:C.Ok)(h:PaAt C w l d)(LM:mayB [45] l=false)(hm:mayB [40] l=true):
  Calls Tryz.prog 286 #[.pointer (some ⟨C.P,0,none⟩)] w (ExP C d (zaw n l) w):=by
 have JI:= @makeF Tryz.prog;have hL:=h.lts;have Hg:=zbf hk h;obtain⟨j,cap,m,GW,Jn,hl,F9,G7,hb,p0,p1,f0,f1,t0,t1,t2,ltP,ltT⟩:=h.cells;have JY:m<=9223372036854775807:=by omega
 have JU:(0:Int) < (m:Int):=by omega
 obtain⟨a,ha⟩:∃a:Int,a=(hdT l).at_ :=⟨_,rfl⟩;rw[<-ha]at t2 Hg;have HA:=aA ha;obtain⟨w1,Hc⟩:=aF (((w.alloc (.cells #[.pointer (some ⟨C.P,0,none⟩)] 162)).alloc (.cells #[.int .u8 0,.string ⟨#[]⟩,.int .i64 0,.slice none 0 0,.int .i64 0] 175)).alloc (.cells #[.int .i64 a] 3));obtain⟨Hd,Hw,GD,hbx,Kd⟩:=zci C a w w1 Hc;have h1:=h.fr Hd id id λ_ _=>id;have Hl:=aA Hd;have Ge:=aA Hc;have HK:=aA hk;have HL:=aA hL;have hent:=enters_of Tryz.func304 (by kernel_rfl) rfl;have Qo:=h1.alloc (.cells #[.string ⟨#[45]⟩] 9);have KE:=zdA C [45] l d w1.heap.size _ Qo LM (by simp);have h2:=Qo.alloc (.cells #[.string ⟨#[40]⟩] 9);have Fi:=zcv C [40] l d (w1.heap.size+1) _ h2 hm (by simp);have He:Fr NoT w1 ((w1.alloc (.cells #[.string ⟨#[45]⟩] 9)).alloc (.cells #[.string ⟨#[40]⟩] 9)):=((Fr.refl NoT w1).alloc _).alloc _;unfold pP at Fi KE;rw[Hw]at Fi KE;rw[Hc]at Fi KE;have LW:=aA Fi;have TG:=aA KE
 match n,hs,Ga with
 |0,hs,Ga=>
  obtain rfl:d=24:=by omega
  have hw:=za9 C [40] (.func (.func 304) #[] #[.pointer (some ⟨w.heap.size,0,none⟩),.pointer (some ⟨w.heap.size+1,0,none⟩)]) l _ h2 hm;rw[zmw LM hm];rw[Hc]at hw;unfold ErrP zaf pP at hw;have HW:=aA hw;have Hu:=aA He;clear hw Hc Hd Hw GD hbx Kd h1 h2 h hs hk hent hm hb hl GW ha He Hg hL Fi KE Qo LM;go_enter Tryz.func286,Tryz.ntmps286;go_wp2_with fail;refine TG.mono ?_;rintro _ uC ⟨uD,RP,rfl,rfl⟩;go_wp2_with fail;refine LW.mono ?_;rintro _ wy ⟨rfl,rfl⟩;go_wp2_with fail;refine HW.mono ?_;rintro _ w3 ⟨rfl,hf⟩;go_wp2_with fail;have He:=Hu.out;rw[Ge.out]at He;exact⟨rfl,rfl,((by rw[<-Ge.out];exact Hl.any:Fr C.T w _).trans He.any).trans hf⟩
 |n+1,hs,Ga=>
  have Lg:=hs n rfl;have FT:∀W,PaAt C W l.tail (d+1)->Fr C.T ((w1.alloc (.cells #[.string ⟨#[45]⟩] 9)).alloc (.cells #[.string ⟨#[40]⟩] 9)) W->Calls Tryz.prog 304 #[.pointer (some ⟨w.heap.size,0,none⟩),.pointer (some ⟨w.heap.size+1,0,none⟩)] W (ParP C (w.heap.size+1) (d+1) (endP [41] n l.tail) W):=λW hP hF=>
   zka C n Lg l.tail (d+1) w.heap.size (w.heap.size+1) W (by omega) hk hP ((GD.fr0 He).fr hF (λe=>by have e:w.heap.size=C.P:=e;omega)) (by omega) ((hbx.fr0 He).fr hF (λe=>by have e:w.heap.size+1=C.P:=e;omega)) (by omega) (by omega) (by omega) (by omega)
  rw[zmx LM hm];cases hr:endP [41] n l.tail with
  |err c e=>
   rw[hr]at FT;have hw:=zbn C [40] 304 #[.pointer (some ⟨w.heap.size,0,none⟩),.pointer (some ⟨w.heap.size+1,0,none⟩)] l d _ c e (λw2=>Fr (PT C (w.heap.size+1)) w1 w2) hk h2 (by decide) hm (by omega) hent (λW hP hF=>(FT W hP hF).mono λe w2 hE=>⟨hE.1,(PT.l (He.any.trans hF)).trans hE.2⟩);rw[Hc]at hw;unfold zaf pP at hw;have HW:=aA hw;clear hw Hc Hd Hw GD hbx Kd h1 h2 h hs hk hent hm hb hl GW ha He Hg hL FT Lg Fi KE Qo LM;go_enter Tryz.func286,Tryz.ntmps286;go_wp2_with fail;refine TG.mono ?_;rintro _ uC ⟨uD,RP,rfl,rfl⟩;go_wp2_with fail;refine LW.mono ?_;rintro _ wy ⟨rfl,rfl⟩;go_wp2_with fail;refine HW.mono ?_;rintro _ w3 ⟨rfl,hf⟩;go_wp2_with fail;rw[<-Ge.out]at hf;exact⟨rfl,rfl,zdP Hl.out (by omega) hf⟩
  |ok x r=>
   rw[hr]at FT;have hw:=zbE C [40] 304 #[.pointer (some ⟨w.heap.size,0,none⟩),.pointer (some ⟨w.heap.size+1,0,none⟩)] l d _ (λw2=>ResAt (w.heap.size+1) (w.heap.size+3) w2 x/\PaAt C w2 r (d+1)/\Fr (PT C (w.heap.size+1)) w1 w2) hk h2 (by decide) hm (by omega) hent (λw2 h2=>⟨r,h2.2.1⟩)
    (λW hP hF=>(FT W hP hF).mono λe w2 hE=>⟨hE.1,hE.2.1.low (by rw[<-Hw];exact aK He.size hF.size),hE.2.2.1,(PT.l (He.any.trans hF)).trans hE.2.2.2⟩)
   rw[Hc]at hw;unfold zb4 pP at hw;have HW:=aA hw;clear hw Hc Hd Hw GD hbx Kd h1 h2 h hs hk hent hm hb hl GW ha He Hg hL FT Lg Fi KE Qo LM;go_enter Tryz.func286,Tryz.ntmps286;go_wp2_with fail;refine TG.mono ?_;rintro _ uC ⟨uD,RP,rfl,rfl⟩;go_wp2_with fail;refine LW.mono ?_;rintro _ wy ⟨rfl,rfl⟩;go_wp2_with fail;refine HW.mono ?_;rintro _ w3 ⟨rfl,w2,⟨My,GP,hf⟩,rfl⟩;rw[<-Ge.out]at hf;obtain⟨⟨A,c,FL,KL⟩,Kq,Gg⟩:=zeb HK.out HL.out Hl.out (by omega) (by omega) My GP hf;have q0:=FL.cell 0;have q1:=FL.cell 1;have q2:=FL.cell 2;have q3:=FL.cell 3;have q4:=FL.cell 4;simp only[aD]at q0 q1 q2 q3 q4;have HV:=aA KL;have HP:=aA Kq;have HF:=aA Gg;clear My GP hf FL KL Kq Gg;go_wp2_with fail;exact bodyPost_ret (v:=exV x.k x.nm x.n A x.args.len c x.at_) (by simp[results,Tryz.results286,go_sem,exV,q0,q1,q2,q3,q4]) rfl ⟨_,rfl,HV.out,HP.out,HF.out⟩
theorem zoA {n:Nat}{l:List Tk}(h0:mayB [45] l=false)(h1:mayB [40] l=false)(hn:zaL l=false):zaw n l=(zaR l).then λv r=> .ok ⟨1,noB,v,.nil,(hdT l).at_⟩ r:=by
 cases n<;>(unfold zaw;rw[if_neg (by rw[h0];decide),if_neg (by rw[h1];decide),if_neg (by rw[hn];decide)])
theorem zoB {n:Nat}{l:List Tk}(h0:mayB [45] l=false)(h1:mayB [40] l=false)(hn:zaL l=true)(hb:mayB [91] l.tail=false):zaw n l= .ok ⟨2,txt (hdT l),0,.nil,(hdT l).at_⟩ l.tail:=by
 cases n<;>(unfold zaw;rw[if_neg (by rw[h0];decide),if_neg (by rw[h1];decide),if_pos hn,if_neg (by rw[hb];decide)])
theorem zoC {n:Nat}{l:List Tk}(h0:mayB [45] l=false)(h1:mayB [40] l=false)(hn:zaL l=true)(hb:mayB [91] l.tail=true):zaw n l=(za7 n l.tail).then λx r=> .ok ⟨3,txt (hdT l),0,x.cons .nil,(hdT l).at_⟩ r:=by
 cases n with
 |zero=>
  rw[zh3 hb];unfold zaw;rw[if_neg (by rw[h0];decide),if_neg (by rw[h1];decide),if_pos hn,if_pos hb];rfl
 |succ n=>
  have e:zaw (n+1) l=(zct (zaw n) l.tail.tail).then λx r=>(zal [93] r).then λ_ r=> .ok ⟨3,txt (hdT l),0,x.cons .nil,(hdT l).at_⟩ r:=by
   unfold zaw;rw[if_neg (by rw[h0];decide),if_neg (by rw[h1];decide),if_pos hn,if_pos hb]
  rw[e,zh4 hb,endP,zaO];generalize zct (zaw n) l.tail.tail=q;cases q with
  |err e a=>rfl
  |ok x r=>
   simp only[PR.then];generalize zal [93] r=q2;cases q2<;>rfl
theorem ze2 (C:Pcx)(l:List Tk)(d:Nat)(w:World)(hk:C.Ok)(h:PaAt C w l d):Calls Tryz.prog 203 #[.pointer (some ⟨C.P,0,none⟩)] w λe w'=>
  ((hdT l).kind =2/\e= .returned (.int .i64 (decV (hdT l).text))/\PaAt C w' l.tail d/\Fr C.T w w')\/((hdT l).kind ≠2/\e= .panicked [{v:= .iface 161 (.agg #[.int .i64 90,.int .i64 (hdT l).at_]),recovered:=false}]/\Fr C.T w w'):=by
 by_cases hn:(hdT l).kind =2
 ·exact(ziU C l d w hk h hn).mono λe w' h=> .inl ⟨hn,h⟩
 ·exact(zj6 C l d w h hn).mono λe w' h=> .inr ⟨hn,h⟩
theorem zh6 {C:Pcx}(hk:C.Ok){w:World}{l:List Tk}{d:Nat}(h:PaAt C w l d)(hn:(hdT l).kind =2):in64 (decV (hdT l).text :Int):=by
 obtain⟨j,cap,e,_⟩:=h.at_;have Qc:=List.mem_of_getElem? (zaH e h.ne).1;have LQ:=zgm (t:=(hdT l).text) (n:=(hdT l).text.length) (by
  rcases hk.toks _ Qc with h1|h1
  ·rw[h1,hn]
  ·rw[h1.2]at hn;simp at hn) rfl
 have:=LQ.2.2;unfold in64;omega
theorem zh7 {C:Pcx}{w w7:World}{rb d:Nat}{k n a:Int}{nm:ByteArray}{r:List Tk}{q0 q1 q2 q3 q4:Value}(hL:C.P < w.heap.size/\C.TB < w.heap.size/\C.W0.heap.size<=w.heap.size)(h8:in8 k)(hn:in64 n)(Hg:in64 a)(Gr:w.heap.size<=rb)
  (hb:Bk w7 rb 175 #[q0,q1,q2,q3,q4]) (hp:PaAt C w7 r d) (hf:Fr C.T w w7) (w9:World)
  (h9:w9=(((((w7.setCell ⟨rb,0,none⟩ (.int .u8 k)).setCell ⟨rb,1,none⟩ (.string nm)).setCell ⟨rb,2,none⟩ (.int .i64 n)).setCell ⟨rb,3,none⟩ (.slice none 0 0)).setCell ⟨rb,4,none⟩ (.int .i64 a))):
  Bk w9 rb 175 #[.int .u8 k,.string nm,.int .i64 n,.slice none 0 0,.int .i64 a]/\ExV w9 w.heap.size (exV k nm n none 0 0 a) ⟨k,nm,n,.nil,a⟩/\PaAt C w9 r d/\Fr C.T w w9:=by
 have Gl:Fr (λb=>b=rb) w7 w9:=by rw[h9];exact aJ (aJ (aJ (aJ (aJ aH))))
 refine⟨by rw[h9];exact bk5 hb,⟨h8,hn,Hg,none,0,rfl,aL 0,sl0,λh=>absurd h (by simp[Exs.len])⟩,hp.fr Gl (λe=>?_) (λe=>?_) (λi hi e=>?_),?_⟩
 ·have e:C.P=rb:=e;omega
 ·have e:C.TB=rb:=e;omega
 ·have e:i=rb:=e;omega
 ·rw[h9];exact Fr.high (Fr.high (Fr.high (Fr.high (Fr.high hf Gr _ _) Gr _ _) Gr _ _) Gr _ _) Gr _ _
theorem zmy {C:Pcx}{w w11:World}{rb d:Nat}{a:Int}{nm:ByteArray}{x:Ex}{r:List Tk}{A:Option Addr}{c:Nat}{q0 q3:Value}(hL:C.P < w.heap.size/\C.TB < w.heap.size/\C.W0.heap.size<=w.heap.size)(Gr:w.heap.size<=rb)(Hg:in64 a)
  (hb:Bk w11 rb 175 #[q0,.string nm,.int .i64 0,q3,.int .i64 a]) (hv:ExV w11 (rb+1) (exV x.k x.nm x.n A x.args.len c x.at_) x) (hp:PaAt C w11 r d) (hf:Fr C.T w w11):
  ∀xt,xt=((w11.setCell ⟨rb,0,none⟩ (.int .u8 3)).setCell ⟨rb,3,none⟩ (.slice (some ⟨w11.heap.size,0,none⟩) 1 1)).alloc (.cells #[.int .u8 x.k,.string x.nm,.int .i64 x.n,.slice A x.args.len c,.int .i64 x.at_] 175)->
   ExP C d ((PR.ok x r).then λx r=>PR.ok ⟨3,nm,0,x.cons .nil,a⟩ r) w (.returned (exV 3 nm 0 (some ⟨w11.heap.size,0,none⟩) 1 1 a)) xt:=by
 intro xt Pj;have Gl:Fr (λb=>b=rb) w11 xt:=by rw[Pj];exact(aJ (aJ aH)).alloc _
 have Hk:=hb.lt;have hs:=hf.size;have qK:xt.heap.size=w11.heap.size+1:=by rw[Pj];simp
 obtain⟨x1,x2,x3,Ax,cx,ex,JJ⟩:=hv;simp only[exV,Value.agg.injEq,Array.mk.injEq,List.cons.injEq,Value.slice.injEq,true_and,and_true]at ex;obtain⟨rfl,rfl⟩:=ex;refine⟨_,rfl,⟨by show in8 3;unfold in8;omega,by show in64 0;unfold in64;omega,Hg,_,_,rfl,aL 1,sl1,λ_=>⟨w11.heap.size,0,rfl,?_⟩⟩,?_,?_⟩
 ·refine zj8 (by rw[Pj];exact Bk.new_at _ _ _ (by simp)) ⟨hs,by omega⟩ ⟨x1,x2,x3⟩ (JJ.imp λ_ _ h=>?_);refine ExR.more (λb hb=>?_) (ExR.keep (Gl.same λb hb=>⟨hb.2,λe=>?_⟩) h)
  ·have h1:=hb.1;have h2:=hb.2;exact⟨by omega,by omega⟩
  ·have h1:=hb.1;omega
 ·refine hp.fr Gl (λe=>?_) (λe=>?_) (λi hi e=>?_)
  ·have e:C.P=rb:=e;omega
  ·have e:C.TB=rb:=e;omega
  ·have e:i=rb:=e;omega
 ·rw[Pj];exact(Fr.high (Fr.high hf Gr _ _) Gr _ _).alloc _
theorem zmz (C:Pcx)(n:Nat)(l:List Tk)(d:Nat)(w:World)(hk:C.Ok)(h:PaAt C w l d)(LM:mayB [45] l=false)(FW:mayB [40] l=false)(Jt:zaL l=false):
  Calls Tryz.prog 286 #[.pointer (some ⟨C.P,0,none⟩)] w (ExP C d (zaw n l) w):=by
 rw[zoA LM FW Jt];have hL:=h.lts;have Hg:=zbf hk h;have SX:=λhn=>zh6 hk h (hn:=hn);obtain⟨j,cap,m,GW,Jn,hl,F9,G7,hb,p0,p1,f0,f1,t0,t1,t2,ltP,ltT⟩:=h.cells;have JY:m<=9223372036854775807:=by omega
 have JU:(0:Int) < (m:Int):=by omega
 obtain⟨a,ha⟩:∃a:Int,a=(hdT l).at_ :=⟨_,rfl⟩;rw[<-ha]at t2 Hg ⊢;obtain⟨w1,Hc⟩:=aF (((w.alloc (.cells #[.pointer (some ⟨C.P,0,none⟩)] 162)).alloc (.cells #[.int .u8 0,.string ⟨#[]⟩,.int .i64 0,.slice none 0 0,.int .i64 0] 175)).alloc (.cells #[.int .i64 a] 3));obtain⟨Hd,Hw,GD,hbx,Kd⟩:=zci C a w w1 Hc;have h1:=h.fr Hd id id λ_ _=>id;have h2:=h1.alloc (.cells #[.string ⟨#[45]⟩] 9);have h3:=h2.alloc (.cells #[.string ⟨#[40]⟩] 9);have KE:=zdA C [45] l d w1.heap.size _ h2 LM (by simp);have Fd:=zdA C [40] l d (w1.heap.size+1) _ h3 FW (by simp);have Gg:Fr NoT w1 ((w1.alloc (.cells #[.string ⟨#[45]⟩] 9)).alloc (.cells #[.string ⟨#[40]⟩] 9)):=(aH.alloc _).alloc _;have Li:=zcL C l d _ hk h3;rw[Jt]at Li;unfold ziT at Li;have Mv:=λW hW=>ze2 C l d W hk hW;unfold pP at KE Fd Li;rw[Hw]at KE Fd;have Ge:=aA Hc;have Gi:=aA (Hd.trans Gg);have MK:=aA (GD.fr0 Gg);have Qp:=aA (Kd.fr0 Gg);have JV:=aA (hbx.fr0 Gg);rw[Hc]at KE Fd Li Gi MK Qp JV;have TG:=aA KE;have YY:=aA Fd;have RC:=aA Li;have Kl:=aA Mv;have HL:=aA hL;have YZ:=aA SX;have HA:=aA ha;obtain⟨Rl,Y0⟩:=aF (zaR l);rw[<-Y0];have U7:=aA Y0;clear KE Fd Li Mv hL SX ha Y0 Hc Hd Hw GD hbx Kd h1 h2 h3 Gg h hk hb hl GW LM FW Jt;go_enter Tryz.func286,Tryz.ntmps286;go_wp2_with fail;refine TG.mono ?_;rintro _ uC ⟨uD,RP,rfl,rfl⟩;go_wp2_with fail;refine YY.mono ?_;rintro _ DD ⟨DE,Y1,rfl,rfl⟩;go_wp2_with fail;refine RC.mono ?_
 rintro _ w4 ⟨rfl,LX,HJ⟩;have Mk:=MK.fr HJ (λe=>by have e:w.heap.size=C.P:=e;have:=HL.out;omega);have Ml:=Qp.fr HJ (λe=>by have e:w.heap.size+2=C.P:=e;have:=HL.out;omega);have Qq:=JV.fr HJ (λe=>by have e:w.heap.size+1=C.P:=e;have:=HL.out;omega);have FF:=Mk.cell 0;have Qn:=Ml.cell 0;simp only[List.getElem?_toArray,List.getElem?_cons_zero]at FF Qn;have Gt:=Mk.lt;have Lh:=Ml.lt;have U8:=aA (LX.fr (T:=NoT) (Fr.drew aH) id id λ_ _=>id);have GG:=aA (Gi.any.trans HJ);have L7:=aA Mk;have TF:=aA Ml;have Rz:=aA Qq;clear LX HJ Mk Ml Qq;go_wp2_with fail
 go_region_held2 (λW'=>W'.cell? ⟨w.heap.size,0,none⟩=some (.pointer (some ⟨C.P,0,none⟩))/\W'.cell? ⟨w.heap.size+1+1,0,none⟩=some (.int .i64 a))
  (first
   |(refine⟨?_,?_⟩<;>with_reducible assumption)
   |(with_reducible refine⟨(Fr.cell (T:=λb=>b=w.heap.size+1) (w:=w7) (aJ (aJ (aJ (aJ (aJ aH))))) Fc Kw).trans Fb,(Fr.cell (T:=λb=>b=w.heap.size+1) (w:=w7) (aJ (aJ (aJ (aJ (aJ aH))))) Mj TE).trans N4⟩)
   |(with_reducible refine⟨(Fr.cell (T:=NoT) (w:=w4) (Fr.drew aH) Gt id).trans FF,(Fr.cell (T:=NoT) (w:=w4) (Fr.drew aH) Lh id).trans Qn⟩))
  (first
   |(go_at_call 203
     with_reducible refine(Kl.out _ U8.out).mono ?_
     intro e w7 hE;rcases hE with⟨Ji,rfl,hp,hf⟩|⟨Ji,rfl,hf⟩;rotate_left
     ·exact⟨rfl,by rw[U7.out,zaR,if_neg Ji];exact⟨rfl,(GG.drew).trans hf⟩⟩
     have JH:=(Fr.drew (Fr.refl C.T w4)).trans hf;have Hh:=Rz.fr JH (λe=>by have e:w.heap.size+1=C.P:=e;have:=HL.out;omega);have q0:=Hh.cell 0;have q1:=Hh.cell 1;have q2:=Hh.cell 2;have q3:=Hh.cell 3;have q4:=Hh.cell 4;have g0:=Hh.frozen 0;have g1:=Hh.frozen 1;have g2:=Hh.frozen 2;have g3:=Hh.frozen 3;have g4:=Hh.frozen 4;have JK:=L7.fr JH (λe=>by have e:w.heap.size=C.P:=e;have:=HL.out;omega);have Kc:=TF.fr JH (λe=>by have e:w.heap.size+2=C.P:=e;have:=HL.out;omega);have Fb:=JK.cell 0;have N4:=Kc.cell 0;have Fc:=JK.lt;have Mj:=Kc.lt;have RO:=Hh.lt;have Kw:¬w.heap.size=w.heap.size+1:=by omega
     have TE:¬w.heap.size+1+1=w.heap.size+1:=by omega
     simp only[aD]at q0 q1 q2 q3 q4 Fb N4;have U9:=aA Ji;have HP:=aA hp;have HF:=aA (GG.trans JH);have HB:=aA Hh;clear Ji hp hf JH Hh JK Kc))
 all_goals
  go_wp2_with fail;obtain⟨Pk,SY,KF,Gl⟩:=zh7 HL.out (k:=1) (n:=(decV (hdT l).text :Int)) (a:=a) (nm:=⟨#[]⟩) (by unfold in8;omega) (YZ U9.out) Hg (by omega) HB.out HP.out HF.out _ rfl;have HV:=aA SY;have Y2:=aA KF;have Lj:=aA Gl;clear Pk SY KF Gl;refine bodyPost_ret (v:=exV 1 noB (decV (hdT l).text :Int) none 0 0 a) (by simp[results,Tryz.results286,go_sem,exV,noB,q0,q1,q2,q3,q4,RO]) rfl ?_;rw[U7.out,zaR,if_pos U9.out];exact⟨_,rfl,HV.out,Y2.out,Lj.out⟩
theorem zmA (C:Pcx)(n:Nat)(hs:∀m,n=m+1->zdJ C m)(l:List Tk)(d:Nat)(w:World)(Ga:d+n=24)(hk:C.Ok)(h:PaAt C w l d)(LM:mayB [45] l=false)(FW:mayB [40] l=false)(Jt:zaL l=true):
  Calls Tryz.prog 286 #[.pointer (some ⟨C.P,0,none⟩)] w (ExP C d (zaw n l) w):=by
 have hL:=h.lts;have Hg:=zbf hk h;obtain⟨R,hR⟩:=aF (zaw n l);rw[<-hR];obtain⟨j,cap,m,GW,Jn,hl,F9,G7,hb,p0,p1,f0,f1,t0,t1,t2,ltP,ltT⟩:=h.cells;have JY:m<=9223372036854775807:=by omega
 have JU:(0:Int) < (m:Int):=by omega
 obtain⟨a,ha⟩:∃a:Int,a=(hdT l).at_ :=⟨_,rfl⟩;rw[<-ha]at t2 Hg;obtain⟨w1,Hc⟩:=aF (((w.alloc (.cells #[.pointer (some ⟨C.P,0,none⟩)] 162)).alloc (.cells #[.int .u8 0,.string ⟨#[]⟩,.int .i64 0,.slice none 0 0,.int .i64 0] 175)).alloc (.cells #[.int .i64 a] 3));obtain⟨Hd,Hw,GD,hbx,Kd⟩:=zci C a w w1 Hc;have h1:=h.fr Hd id id λ_ _=>id;have h2:=h1.alloc (.cells #[.string ⟨#[45]⟩] 9);have h3:=h2.alloc (.cells #[.string ⟨#[40]⟩] 9);have KE:=zdA C [45] l d w1.heap.size _ h2 LM (by simp);have Fd:=zdA C [40] l d (w1.heap.size+1) _ h3 FW (by simp);have Gg:Fr NoT w1 ((w1.alloc (.cells #[.string ⟨#[45]⟩] 9)).alloc (.cells #[.string ⟨#[40]⟩] 9)):=(aH.alloc _).alloc _;have Li:=zcL C l d _ hk h3;rw[Jt]at Li;unfold ziT at Li;have Mv:=λW hW=>zh1 C l d W hk hW Jt;unfold RetP vaV at Mv;unfold pP at KE Fd Li Mv;rw[Hw]at KE Fd;have Ge:=aA Hc;have Gi:=aA (Hd.trans Gg);have MK:=aA (GD.fr0 Gg);have Qp:=aA (Kd.fr0 Gg);have JV:=aA (hbx.fr0 Gg);rw[Hc]at KE Fd Li Gi MK Qp JV;have TG:=aA KE;have YY:=aA Fd;have RC:=aA Li;have Kl:=aA Mv;have HL:=aA hL;have HK:=aA hk;have HS:=aA hs;have HR:=aA hR;have Jv:=aA (λW hW=>hk.more (w:=W) (l:=l) (d:=d) hW (zdz Jt));have HA:=aA ha;have qL:=aA (λhb=>zoB (n:=n) LM FW Jt hb);have qM:=aA (λhb=>zoC (n:=n) LM FW Jt hb);clear KE Fd Li Mv hL ha hR hs Hc Hd Hw GD hbx Kd h1 h2 h3 Gg h hk hb hl GW LM FW Jt;go_enter Tryz.func286,Tryz.ntmps286
 go_wp2_with fail;refine TG.mono ?_;rintro _ uC ⟨uD,RP,rfl,rfl⟩;go_wp2_with fail;refine YY.mono ?_;rintro _ DD ⟨DE,Y1,rfl,rfl⟩;go_wp2_with fail;refine RC.mono ?_;rintro _ w4 ⟨rfl,LX,HJ⟩;have Mk:=MK.fr HJ (λe=>by have e:w.heap.size=C.P:=e;have:=HL.out;omega);have Ml:=Qp.fr HJ (λe=>by have e:w.heap.size+2=C.P:=e;have:=HL.out;omega);have Qq:=JV.fr HJ (λe=>by have e:w.heap.size+1=C.P:=e;have:=HL.out;omega);have FF:=Mk.cell 0;have Qn:=Ml.cell 0;simp only[List.getElem?_toArray,List.getElem?_cons_zero]at FF Qn;have Gt:=Mk.lt;have Lh:=Ml.lt;have U8:=aA (LX.fr (T:=NoT) (Fr.drew aH) id id λ_ _=>id);have GG:=aA (Gi.any.trans HJ);have L7:=aA Mk;have TF:=aA Ml;have Rz:=aA Qq;clear LX HJ Mk Ml Qq;go_wp2_with fail
 go_region_held2 (λW'=>W'.cell? ⟨w.heap.size,0,none⟩=some (.pointer (some ⟨C.P,0,none⟩))/\W'.cell? ⟨w.heap.size+1+1,0,none⟩=some (.int .i64 a))
  (first
   |(refine⟨?_,?_⟩<;>with_reducible assumption)
   |(with_reducible refine⟨(Fr.cell (T:=λb=>b=w.heap.size+1) (w:=w7) (aJ (aJ (aJ (aJ (aJ aH))))) Fc Kw).trans Fb,(Fr.cell (T:=λb=>b=w.heap.size+1) (w:=w7) (aJ (aJ (aJ (aJ (aJ aH))))) Mj TE).trans N4⟩)
   |(with_reducible refine⟨(Fr.cell (T:=NoT) (w:=w4) (Fr.drew aH) Gt id).trans FF,(Fr.cell (T:=NoT) (w:=w4) (Fr.drew aH) Lh id).trans Qn⟩))
  (first
   |(go_at_call 131
     with_reducible refine(Kl.out _ U8.out).mono ?_
     intro e w7 hE;obtain⟨rfl,hp,hf⟩:=hE;have JH:=(Fr.drew (Fr.refl C.T w4)).trans hf;have Hh:=Rz.fr JH (λe=>by have e:w.heap.size+1=C.P:=e;have:=HL.out;omega);have q0:=Hh.cell 0;have q1:=Hh.cell 1;have q2:=Hh.cell 2;have q3:=Hh.cell 3;have q4:=Hh.cell 4;have g0:=Hh.frozen 0;have g1:=Hh.frozen 1;have g2:=Hh.frozen 2;have g3:=Hh.frozen 3;have g4:=Hh.frozen 4;have JK:=L7.fr JH (λe=>by have e:w.heap.size=C.P:=e;have:=HL.out;omega);have Kc:=TF.fr JH (λe=>by have e:w.heap.size+2=C.P:=e;have:=HL.out;omega);have Fb:=JK.cell 0;have N4:=Kc.cell 0;have Fc:=JK.lt;have Mj:=Kc.lt;have RO:=Hh.lt;have Kw:¬w.heap.size=w.heap.size+1:=by omega
     have TE:¬w.heap.size+1+1=w.heap.size+1:=by omega
     simp only[aD]at q0 q1 q2 q3 q4 Fb N4;have HP:=aA hp;have HF:=aA (GG.trans JH);have HB:=aA Hh;clear hp hf JH Hh JK Kc))
 all_goals
  obtain⟨w9,KJ⟩:=aF ((((((w7.setCell ⟨w.heap.size+1,0,none⟩ (.int .u8 2)).setCell ⟨w.heap.size+1,1,none⟩ (.string (txt (hdT l)))).setCell ⟨w.heap.size+1,2,none⟩ (.int .i64 0)).setCell ⟨w.heap.size+1,3,none⟩ (.slice none 0 0)).setCell ⟨w.heap.size+1,4,none⟩ (.int .i64 a)));obtain⟨Pk,SY,KF,Gl⟩:=zh7 HL.out (k:=2) (n:=0) (a:=a) (nm:=txt (hdT l)) (by unfold in8;omega) (by unfold in64;omega) Hg (by omega) HB.out HP.out HF.out w9 KJ;have HV:=aA SY;have Y2:=aA KF;have Lj:=aA Gl;have jB:=aA Pk;rw[<-KJ];have VU:Fr (λb=>b=w.heap.size+1) w7 w9:=by rw[KJ];exact aJ (aJ (aJ (aJ (aJ aH))))
  have qN:=(VU.cell (p:=⟨w.heap.size,0,none⟩) Fc Kw).trans Fb;clear Pk SY KF Gl KJ q0 q1 q2 q3 q4 g0 g1 g2 g3 g4 VU Fb N4;have L8:=Y2.alloc (.cells #[.string ⟨#[91]⟩] 9);have FH:=jB.alloc (.cells #[.string ⟨#[91]⟩] 9);have qO:w.heap.size < w9.heap.size:=by have:=jB.lt;omega
  cases FT:mayB [91] l.tail
  ·have Jq:=zdA C [91] l.tail d w9.heap.size _ L8 FT (by simp);unfold pP at Jq;have TH:=aA Jq;have Fh:=aA (HR.trans (qL FT));have q0:=FH.cell 0;have q1:=FH.cell 1;have q2:=FH.cell 2;have q3:=FH.cell 3;have q4:=FH.cell 4;simp only[aD]at q0 q1 q2 q3 q4;have FN:=aA L8;clear Jq FT L8 FH;go_wp2_with fail;refine TH.mono ?_;rintro _ DF ⟨Ec,qP,rfl,rfl⟩;go_wp2_with fail;refine bodyPost_ret (v:=exV 2 (txt (hdT l)) 0 none 0 0 a) (by simp[results,Tryz.results286,go_sem,exV,q0,q1,q2,q3,q4]) rfl ?_;rw[Fh.out,<-HA.out];exact⟨_,rfl,ExV.fr (T:=NoT) HV.out (aH.alloc _) (λ_ _ _=>id),FN.out,Lj.alloc _⟩
  ·have Jq:=zcv C [91] l.tail d w9.heap.size _ L8 FT (by simp);unfold pP at Jq;have TH:=aA Jq;have Fh:=aA (HR.trans (qM FT));have Y3:=aA (zgt C n HS.out l.tail d _ Ga HK.out L8);have Y4:=aA FH;clear Jq FT L8 FH;go_wp2_with fail;refine TH.mono ?_;rintro _ DF ⟨rfl,rfl⟩;go_wp2_with fail;refine Y3.mono ?_;intro e w11 hE;rcases hE.ways with⟨x,r,A,c,hx,rfl,hv,hp,hf⟩|⟨c,e2,hx,rfl,hf⟩;rotate_left
   ·go_wp2_with fail;exact⟨rfl,by rw[Fh.out,hx];exact⟨rfl,(Lj.alloc _).trans hf⟩⟩
   have LY:=Y4.fr hf (λe=>by have e:w.heap.size+1=C.P:=e;have:=HL.out;omega);have q0:=LY.cell 0;have q3:=LY.cell 3;have g0:=LY.frozen 0;have g3:=LY.frozen 3;have VV:=LY.lt;have q1:=LY.cell 1;have q2:=LY.cell 2;have q4:=LY.cell 4;simp only[aD]at q0 q1 q2 q3 q4;have HX:=aA hx;have qQ:=aA (zmy HL.out (rb:=w.heap.size+1) (by omega) Hg LY (by rw[World.size_alloc]at hv;exact hv.low (by omega)) hp ((Lj.alloc _).trans hf));clear hx hv hp hf LY;go_wp2_with fail;refine bodyPost_ret (v:=exV 3 (txt (hdT l)) 0 (some ⟨w11.heap.size,0,none⟩) 1 1 a) (by simp[results,Tryz.results286,go_sem,exV,q0,q1,q2,q3,q4,VV]) rfl ?_;rw[Fh.out,HX.out,<-HA.out];exact qQ _ rfl
theorem zgu (C:Pcx)(n:Nat)(hs:∀m,n=m+1->zdJ C m)(l:List Tk)(d:Nat)(w:World)(Ga:d+n=24)(hk:C.Ok)(h:PaAt C w l d):Calls Tryz.prog 286 #[.pointer (some ⟨C.P,0,none⟩)] w (ExP C d (zaw n l) w):=by
 cases h0:mayB [45] l
 ·cases h1:mayB [40] l
  ·cases h2:zaL l
   ·exact zmz C n l d w hk h h0 h1 h2
   ·exact zmA C n hs l d w Ga hk h h0 h1 h2
  ·exact ziX C n hs l d w Ga hk h h0 h1
 ·exact ziW C n hs l d w Ga hk h h0
theorem zgv (C:Pcx)(hk:C.Ok):∀n,zdJ C n:=by
 intro n
 induction n with
 |zero=>exact λl d w Ga h=>zgu C 0 (λm h=>absurd h (by omega)) l d w Ga hk h
 |succ n ih=>exact λl d w Ga h=>zgu C (n+1) (λm h=>(show n=m by omega)▸ih) l d w Ga hk h
theorem zb5 (C:Pcx)(n:Nat)(l:List Tk)(d:Nat)(w:World)(Ga:d+n=24)(hk:C.Ok)(h:PaAt C w l d):Calls Tryz.prog 247 #[.pointer (some ⟨C.P,0,none⟩)] w (ExP C d (zaO n l) w):=zfL C n (zgv C hk n) l d w Ga hk h
theorem ziY (C:Pcx)(n:Nat)(l:List Tk)(d:Nat)(w:World)(Ga:d+n=24)(hk:C.Ok)(h:PaAt C w l d):Calls Tryz.prog 246 #[.pointer (some ⟨C.P,0,none⟩)] w (ExP C d (za7 n l) w):=zgt C n (λm _=>zgv C hk m) l d w Ga hk h
