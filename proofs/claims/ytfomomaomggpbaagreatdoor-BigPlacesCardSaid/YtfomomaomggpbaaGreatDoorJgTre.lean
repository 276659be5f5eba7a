/- parse. -/
import Derived.Test.YtfomomaomggpbaaGreatDoorJnSt
set_option linter.all false
set_option maxHeartbeats 3200000
set_option maxRecDepth 100000
namespace Go.Proofs.YtfomomaomggpbaaGreatDoor
open Go.RowKit Go.Shelf
theorem zkB {n:Nat}{l:List Tk}(hm:mayB [123] l=false):zag n l= .err 90 (hdT l).at_ :=by cases n<;>(unfold zag;rw[hm];rfl)
theorem zmN {l:List Tk}(hm:mayB [123] l=true):zag 0 l= .err 91 (hdT l).at_ :=by unfold zag;rw[hm];rfl
theorem zmO {n:Nat}{l:List Tk}(hm:mayB [123] l=true):zag (n+1) l=zbi (zaz (zag n) n) l.tail.length [] l.tail:=by unfold zag;rw[hm];rfl
theorem zgG (C:Pcx)(n:Nat)(hs:∀m,n=m+1->BlkC C m)(l:List Tk)(d:Nat)(w:World)(Ga:d+n=24)(hk:C.Ok)(h:PaAt C w l d):
  Calls Tryz.prog 136 #[.pointer (some ⟨C.P,0,none⟩)] w (EndV C d StlV (zag n l) w):=by
 have JI:= @makeF Tryz.prog;have hL:=h.lts;obtain⟨w1,Hc⟩:=aF ((w.alloc (.cells #[.pointer (some ⟨C.P,0,none⟩)] 162)).alloc (.cells #[.slice none 0 0] 25));have Hd:Fr NoT w w1:=by rw[Hc];exact(aH.alloc _).alloc _
 have Hw:w1.heap.size=w.heap.size+2:=by rw[Hc];simp
 have GD:Bk w1 w.heap.size 162 #[.pointer (some ⟨C.P,0,none⟩)]:=by rw[Hc];exact(Bk.new _ _ _).alloc _
 have hbx:Bk w1 (w.heap.size+1) 25 #[.slice none 0 0]:=by rw[Hc];exact Bk.new_at _ _ _ (by simp)
 have h1:=h.fr Hd id id λ_ _=>id;have Ge:=aA Hc;have hent:=enters_of Tryz.func205 (by kernel_rfl) rfl;cases hm:mayB [123] l
 ·have hw:=zgs C [123] (.func (.func 205) #[] #[.pointer (some ⟨w.heap.size,0,none⟩),.pointer (some ⟨w.heap.size+1,0,none⟩)]) l d w1 h1 hm;rw[zkB hm];rw[Hc]at hw;unfold ErrP zaf pP at hw;have HW:=aA hw;have Hl:=aA Hd;clear hw Hc Hd Hw GD hbx h1 h hs hk hent hm;go_enter Tryz.func136,Tryz.ntmps136;go_wp2_with fail;refine HW.mono ?_;rintro _ w2 ⟨rfl,hf⟩;go_wp2_with fail;rw[<-Ge.out]at hf;exact⟨rfl,rfl,Hl.any.trans hf⟩
 ·match n,hs,Ga with
  |0,hs,Ga=>
   obtain rfl:d=24:=by omega
   have hw:=za9 C [123] (.func (.func 205) #[] #[.pointer (some ⟨w.heap.size,0,none⟩),.pointer (some ⟨w.heap.size+1,0,none⟩)]) l w1 h1 hm;rw[zmN hm];rw[Hc]at hw;unfold ErrP zaf pP at hw;have HW:=aA hw;have Hl:=aA Hd;clear hw Hc Hd Hw GD hbx h1 h hs hk hent hm;go_enter Tryz.func136,Tryz.ntmps136;go_wp2_with fail;refine HW.mono ?_;rintro _ w2 ⟨rfl,hf⟩;go_wp2_with fail;rw[<-Ge.out]at hf;exact⟨rfl,rfl,Hl.any.trans hf⟩
  |n+1,hs,Ga=>
   have Lg:=hs n rfl;rw[zmO hm];obtain⟨R,hR⟩:=aF (zbi (zaz (zag n) n) l.tail.length [] l.tail);have FT:∀W,PaAt C W l.tail (d+1)->Fr C.T w1 W->Calls Tryz.prog 205 #[.pointer (some ⟨w.heap.size,0,none⟩),.pointer (some ⟨w.heap.size+1,0,none⟩)] W (BlbP C (w.heap.size+1) (d+1) R W):=λW hP hF=>by
    rw[hR];exact zi9 C n Lg l.tail (d+1) w.heap.size (w.heap.size+1) W (by omega) hk hP (GD.fr hF (λe=>by have e:w.heap.size=C.P:=e;omega)) (by omega) (by omega) (hbx.fr hF (λe=>by have e:w.heap.size+1=C.P:=e;omega)) (by omega) (by omega) (by omega)
   rw[<-hR];clear hR;cases hr:R with
   |err c a=>
    rw[hr]at FT;have hw:=zbn C [123] 205 #[.pointer (some ⟨w.heap.size,0,none⟩),.pointer (some ⟨w.heap.size+1,0,none⟩)] l d w1 c a (λw2=>Fr (PT C (w.heap.size+1)) w1 w2) hk h1 (by decide) hm (by omega) hent (λW hP hF=>(FT W hP hF).mono λe w2 hE=>⟨hE.1,(PT.l hF).trans hE.2⟩);rw[Hc]at hw;unfold zaf pP at hw;have HW:=aA hw;have Hl:=aA Hd;clear hw Hc Hd Hw GD hbx h1 h hs hk hent hm FT Lg;go_enter Tryz.func136,Tryz.ntmps136;go_wp2_with fail;refine HW.mono ?_;rintro _ w2 ⟨rfl,hf⟩;go_wp2_with fail;rw[<-Ge.out]at hf;refine⟨rfl,rfl,(Hl.any.trans hf).mono λi hi e=>?_⟩;rcases e with e|e
    ·exact e
    ·omega
   |ok xs r=>
    rw[hr]at FT;have hw:=zbE C [123] 205 #[.pointer (some ⟨w.heap.size,0,none⟩),.pointer (some ⟨w.heap.size+1,0,none⟩)] l d w1 (λw2=>(∃v,Bk w2 (w.heap.size+1) 25 #[v]/\StlV w2 (w.heap.size+2) v xs)/\PaAt C w2 r (d+1)/\Fr (PT C (w.heap.size+1)) w1 w2) hk h1 (by decide) hm (by omega) hent (λw2 h2=>⟨r,h2.2.1⟩)
     (λW hP hF=>(FT W hP hF).mono λe w2 hE=>⟨hE.1,by
      obtain⟨v,hv,hs⟩:=hE.2.1;refine⟨v,hv,?_⟩;obtain⟨A,c,e,hs⟩:=hs;exact⟨A,c,e,hs.imp λ_ _ hx=>StR.more (λb hb=>⟨by have:=hF.size;have:=hb.1;omega,hb.2⟩) hx⟩,hE.2.2.1,(PT.l hF).trans hE.2.2.2⟩)
    rw[Hc]at hw;unfold zb4 pP at hw;have HW:=aA hw;have Hl:=aA Hd;have HK:=aA hk;have HL:=aA hL;clear hw Hc Hd Hw GD hbx h1 h hs hk hent hm FT Lg hL;go_enter Tryz.func136,Tryz.ntmps136;go_wp2_with fail;refine HW.mono ?_;rintro _ w2 ⟨rfl,w3,⟨⟨v,hv,X9⟩,hp,hf⟩,rfl⟩;have JH:Fr C.T w3 (w3.setCell ⟨C.P,1,none⟩ (.int .i64 d)):=(Fr.refl C.T w3).setCell (p:=⟨C.P,1,none⟩) (Or.inl C.Tp) _;have KL:=hv.fr JH (λe=>by have e:w.heap.size+1=C.P:=e;have:=HL.out;omega);have q0:=KL.cell 0;simp only[List.getElem?_toArray,List.getElem?_cons_zero]at q0;rw[<-Ge.out]at hf;have vB:=aA (X9.fr JH (λb h1 h2 e=>by have e:b=C.P:=e;have:=HL.1;omega));have HP:=aA (hp.deep HK.out (d':=d) (v:=(d:Int)) rfl);have HF:=aA (((Hl.any.trans hf).trans (PT.l JH)).mono (T':=C.T) λi hi e=>by
     rcases e with e|e
     ·exact e
     ·omega)
    clear hv X9 hp hf JH KL;go_wp2_with fail;refine bodyPost_ret (v:=v) (by simp[results,Tryz.results136,go_sem,q0]) rfl ⟨v,rfl,?_,HP.out,HF.out⟩;obtain⟨A,c,e,hs⟩:=vB.out;exact⟨A,c,e,hs.imp λ_ _ hx=>StR.more (λb hb=>⟨by have:=hb.1;omega,hb.2⟩) hx⟩
theorem zih (C:Pcx)(hk:C.Ok):∀n,BlkC C n:=by
 intro n
 induction n with
 |zero=>exact λl d w Ga h=>zgG C 0 (λm e=>by omega) l d w Ga hk h
 |succ n ih=>exact λl d w Ga h=>zgG C (n+1) (λm e=>by obtain rfl:m=n:=(by omega);exact ih) l d w Ga hk h
def prV (x:Prc)(A:Option Addr)(c:Nat)(D:Option Addr)(e:Nat):Value:= .agg #[.string x.nm,.slice A x.params.length c,.slice D x.body.len e,.int .i64 x.at_]
def PcV (w:World)(L:Nat)(v:Value)(x:Prc):Prop:=
 ∃A c D e,v=prV x A c D e/\in64 x.at_/\SlR (VaR w (New L w) False x.params) x.params.length 24 A c/\SlR (StR w (New L w) False x.body) x.body.len 128 D e
theorem zii {C:Pcx}{d:Nat}{r:PR (List Va)}{W w':World}{e:Ending}(h:EndV C d zoL r W e w'):
  (∃(xs:List Va)(l:List Tk)(A:Option Addr)(c:Nat),r= .ok xs l/\e= .returned (.slice A xs.length c)/\SlR (VaR w' (New W.heap.size w') False xs) xs.length 24 A c/\PaAt C w' l d/\Fr C.T W w')\/
   ∃c a,r= .err c a/\e= .panicked [{v:= .iface 161 (.agg #[.int .i64 c,.int .i64 a]),recovered:=false}]/\Fr C.T W w':=by
 unfold EndV at h;cases r with
 |err c a=>exact .inr ⟨c,a,rfl,h⟩
 |ok x l=>
  obtain⟨v,rfl,⟨A,c,rfl,hs⟩,hp,hf⟩:=h;exact .inl ⟨x,l,A,c,rfl,rfl,hs,hp,hf⟩
theorem zgH {C:Pcx}{d:Nat}{r:PR (List St)}{W w':World}{e:Ending}(h:EndV C d StlV r W e w'):
  (∃(xs:List St)(l:List Tk)(A:Option Addr)(c:Nat),r= .ok xs l/\e= .returned (.slice A (zai xs).len c)/\SlR (StR w' (New W.heap.size w') False (zai xs)) (zai xs).len 128 A c/\PaAt C w' l d/\Fr C.T W w')\/
   ∃c a,r= .err c a/\e= .panicked [{v:= .iface 161 (.agg #[.int .i64 c,.int .i64 a]),recovered:=false}]/\Fr C.T W w':=by
 unfold EndV at h;cases r with
 |err c a=>exact .inr ⟨c,a,rfl,h⟩
 |ok x l=>
  obtain⟨v,rfl,⟨A,c,rfl,hs⟩,hp,hf⟩:=h;exact .inl ⟨x,l,A,c,rfl,rfl,hs,hp,hf⟩
theorem zmP {C:Pcx}{w w4 w5 w7 w9:World}{x:Va}{ps:List Va}{xs:List St}{B D:Option Addr}{q m:Nat}{r3:List Tk}(hL:C.P < w.heap.size/\C.TB < w.heap.size/\C.W0.heap.size<=w.heap.size)
  (Hm:Fr C.T w w5) (hf:Fr C.T w5 w7) (h4:w.heap.size+1<=w4.heap.size) (FC:zem x) (Jf:SlR (VaR w5 (New w4.drew.heap.size w5) False ps) ps.length 24 B q) (hv:SlR (StR w7 (New w5.heap.size w7) False (zai xs)) (zai xs).len 128 D m) (hp:PaAt C w7 r3 0)
  (h9:w9=(((w7.setCell ⟨w.heap.size,0,none⟩ (.string x.nm)).setCell ⟨w.heap.size,1,none⟩ (.slice B ps.length q)).setCell ⟨w.heap.size,2,none⟩ (.slice D (zai xs).len m)).setCell ⟨w.heap.size,3,none⟩ (.int .i64 x.at_)) (zW:w4.drew.heap.size<=w5.heap.size):
  EndV C 0 PcV (.ok ⟨x.nm,ps,zai xs,x.at_⟩ r3) w (.returned (prV ⟨x.nm,ps,zai xs,x.at_⟩ B q D m)) w9:=by
 have G6:Fr (λb=>b=w.heap.size) w7 w9:=by rw[h9];exact aJ (aJ (aJ (aJ aH)))
 have Hx:=Hm.size;have N1:=hf.size;have PP:=G6.size;have zX:w.heap.size+1<=w4.drew.heap.size:=h4;have Jw:Fr (λb=>b=C.P\/b=w.heap.size) w5 w9:=(hf.mono λi _ h=> .inl h).trans (G6.mono λi _ h=> .inr h);refine⟨_,rfl,⟨B,q,D,m,rfl,FC,Jf.imp λ_ _ h=>VaR.more (λb hb=>⟨by have:=hb.1;omega,by have:=hb.2;omega⟩) (VaR.keep (Jw.same λb hb=>⟨hb.2,λe=>?_⟩) h),hv.imp λ_ _ h=>StR.more (λb hb=>⟨by have:=hb.1;omega,by have:=hb.2;omega⟩) (StR.keep (G6.same λb hb=>⟨hb.2,λe=>?_⟩) h)⟩,hp.fr G6 (λe=>?_) (λe=>?_) (λi hi e=>?_),?_⟩
 ·have:=hb.1;rcases e with e|e<;>omega
 ·have e:b=w.heap.size:=e;have:=hb.1;omega
 ·have e:C.P=w.heap.size:=e;omega
 ·have e:C.TB=w.heap.size:=e;omega
 ·have e:i=w.heap.size:=e;omega
 ·refine(((Hm.trans hf).mono (T':=λb=>b=C.P\/w.heap.size<=b) λi _ h=> .inl h).trans (G6.mono λi _ h=>?_)).mono λi hi e=>?_
  ·have h:i=w.heap.size:=h;exact .inr (by omega)
  ·rcases e with e|e
   ·exact e
   ·omega
theorem zmQ (C:Pcx)(l:List Tk)(w:World)(hk:C.Ok)(h:PaAt C w l 0):
  Calls Tryz.prog 134 #[.pointer (some ⟨C.P,0,none⟩)] w (EndV C 0 PcV (zhn l) w):=by
 have JI:= @makeF Tryz.prog;obtain⟨R,hR⟩:=aF (zhn l);rw[<-hR];have HR:=aA hR;have HK:=aA hk;have HL:=aA h.lts;have h1:=h.alloc (.cells #[.string ⟨#[]⟩,.slice none 0 0,.slice none 0 0,.int .i64 0] 63);have HN:=aA (zbs C l 0 _ hk h1);have Mx:=aA (Bk.new w 63 #[.string ⟨#[]⟩,.slice none 0 0,.slice none 0 0,.int .i64 0]);have HA:=aA (show Fr C.T w (w.alloc (.cells #[.string ⟨#[]⟩,.slice none 0 0,.slice none 0 0,.int .i64 0] 63))from aH.alloc _);clear hR h h1 hk;go_enter Tryz.func134,Tryz.ntmps134;go_wp2_with fail;refine HN.mono ?_;intro e w2 hE;rcases hE.ways with⟨x,r,hx,rfl,FC,hp,hf⟩|⟨c,a,hx,rfl,hf⟩;rotate_left
 ·go_wp2_with fail;exact⟨rfl,by rw[HR.out,zhn,hx];exact⟨rfl,HA.trans hf⟩⟩
 have GJ:=HR.out;rw[zhn,hx]at GJ;replace GJ:R=(zal [40] r).then λ_ r=>(zaS zaZ [41] true r).then λps r=>(zag 24 r).then λb r=> .ok ⟨x.nm,ps,zai b,x.at_⟩ r:=GJ;have GF:=aA GJ;have Ni:=aA FC;have hL:=HL.out;have GH:w.heap.size+1<=w2.heap.size:=by have:=hf.size;simpa using this
 have J0:=(hp.alloc (.cells #[.string x.nm,.int .i64 x.at_] 77)).alloc (.cells #[.string ⟨#[40]⟩] 9);have HT:=aA (zau C [40] r 0 (w2.heap.size+1) _ HK.out J0 (by decide) (by simp));have Hu:=aA (((HA.trans hf).alloc (.cells #[.string x.nm,.int .i64 x.at_] 77)).alloc (.cells #[.string ⟨#[40]⟩] 9));have V7:=aA ((Bk.new w2 77 #[.string x.nm,.int .i64 x.at_]).alloc (.cells #[.string ⟨#[40]⟩] 9));have LR:=aA (((Mx.fr hf (λe=>by have e:w.heap.size=C.P:=e;omega)).alloc (.cells #[.string x.nm,.int .i64 x.at_] 77)).alloc (.cells #[.string ⟨#[40]⟩] 9));clear hx FC hp hf GJ J0;go_wp2_with fail;refine HT.mono ?_;intro e w4 hE;rcases hE with⟨ht,rfl,hp,hf⟩|⟨ht,rfl,hf⟩;rotate_left
 ·go_wp2_with fail;exact⟨rfl,by rw[GF.out,ht];exact⟨rfl,Hu.trans hf⟩⟩
 have GM:=GF.out;rw[ht]at GM;replace GM:R=(zaS zaZ [41] true r.tail).then λps r=>(zag 24 r).then λb r=> .ok ⟨x.nm,ps,zai b,x.at_⟩ r:=GM;have Fe:=aA GM;have ND:=V7.fr hf (λe=>by have e:w2.heap.size=C.P:=e;omega);have Gr:=LR.fr hf (λe=>by have e:w.heap.size=C.P:=e;omega);have v0:=ND.cell 0;have v1:=ND.cell 1;simp only[aD]at v0 v1;have Jx:=ND.lt;have Pt:¬w2.heap.size=C.P:=by omega
 have MS:=aA (ze7 C zaZ [41] true 131 #[.pointer (some ⟨C.P,0,none⟩)] #[] r.tail 0 w4.drew HK.out (hp.fr (T:=NoT) (Fr.drew aH) id id λ_ _=>id) (λl x r e=>by rw[zb7 e,List.length_tail];omega) (by decide) (enters_of Tryz.func131 (by kernel_rfl) rfl) λW _ l' LU=>by
  simpa using zbs C l' 0 W HK.out LU)
 have ZE:=aA Gr;have GG:=aA (Hu.trans hf);clear ht hp hf GM ND Gr hL;go_wp2_with fail
 go_region_held2 (λW'=>W'.cell? ⟨w2.heap.size,0,none⟩=some (.string x.nm)/\W'.cell? ⟨w2.heap.size,1,none⟩=some (.int .i64 x.at_))
  (first
   |(refine⟨?_,?_⟩<;>with_reducible assumption)
   |(refine⟨(Fr.cell (T:=λb=>b=w.heap.size) (w:=w7) ?_ NZ Wm).trans DH,(Fr.cell (T:=λb=>b=w.heap.size) (w:=w7) ?_ NZ Wm).trans DI⟩
     all_goals(repeat(first|exact aH|refine Fr.own ?_ _ _)))
   |(refine⟨(Fr.cell (T:=NoT) (w:=w4) ?_ Jx id).trans v0,(Fr.cell (T:=NoT) (w:=w4) ?_ Jx id).trans v1⟩
     all_goals(repeat(first|exact aH|refine Fr.drew ?_))))
  (first
   |(go_at_call 130
     with_reducible refine MS.out.mono ?_
     intro e w5 hE;rcases zii hE with⟨ps,r2,B,q,hX,rfl,hv,hp,hf⟩|⟨c,a2,hX,rfl,hf⟩;case inr=>exact⟨rfl,by rw[Fe.out,hX];exact⟨rfl,GG.trans ((Fr.drew (Fr.refl C.T w4)).trans hf)⟩⟩
     have Hm:Fr C.T w4 w5:=(Fr.drew (Fr.refl C.T w4)).trans hf;have DJ:=(Hm.cell (p:=⟨w2.heap.size,0,none⟩) Jx Pt).trans v0;have DK:=(Hm.cell (p:=⟨w2.heap.size,1,none⟩) Jx Pt).trans v1;have T4:=aM Jx Hm.size;have HX:=aA hX;have T5:=aA hv;have Gk:=aA Hm;have F4:=aA (zih C HK.out 24 r2 0 w5 (by omega) hp);clear hX hv hp hf Hm)
   |(go_at_call 136
     with_reducible refine F4.out.mono ?_
     intro e w7 hE;rcases zgH hE with⟨xs,r3,D,m,hY,rfl,hv,hp,hf⟩|⟨c,a2,hY,rfl,hf⟩;case inr=>exact⟨rfl,by rw[Fe.out,HX.out];show EndV C 0 PcV ((zag 24 r2).then _) w _ _;rw[hY];exact⟨rfl,(GG.trans Gk.out).trans hf⟩⟩
     have DH:=(hf.cell (p:=⟨w2.heap.size,0,none⟩) T4 Pt).trans DJ;have DI:=(hf.cell (p:=⟨w2.heap.size,1,none⟩) T4 Pt).trans DK;have NZ:=aM T4 hf.size;have Wm:¬w2.heap.size=w.heap.size:=by omega
     have Hh:=(ZE.fr Gk.out (λe=>by have e:w.heap.size=C.P:=e;have:=HL.out;omega)).fr hf (λe=>by have e:w.heap.size=C.P:=e;have:=HL.out;omega);have q0:=Hh.cell 0;have q1:=Hh.cell 1;have q2:=Hh.cell 2;have q3:=Hh.cell 3;have g0:=Hh.frozen 0;have g1:=Hh.frozen 1;have g2:=Hh.frozen 2;have g3:=Hh.frozen 3;have Jp:=Hh.lt;simp only[aD]at q0 q1 q2 q3;have HY:=aA hY;have HE:=aA (λw9 h9=>zmP (w9:=w9) HL.out (GG.trans Gk.out) hf (by have:=GG.size;omega) Ni.out T5.out hv hp h9 Gk.size);clear hY hv hp hf Hh))
 all_goals
  go_wp2_with fail;refine bodyPost_ret (v:=prV ⟨x.nm,ps,zai xs,x.at_⟩ B q D m) (by simp[results,Tryz.results134,go_sem,prV,q0,q1,q2,q3,Jp]) rfl ?_;have Km:=Fe.out;rw[HX.out]at Km;replace Km:R=(zag 24 r2).then λb r=> .ok ⟨x.nm,ps,zai b,x.at_⟩ r:=Km;rw[Km,HY.out];exact HE _ rfl
theorem zkC (xs:List Va):(xs.flatMap cCVa).length =xs.length*2:=by
 induction xs with
 |nil=>rfl
 |cons a r ih=>rw[List.flatMap_cons,List.length_append,ih];simp[cCVa];omega
theorem zkD (xs:List Arr):(xs.flatMap cCAr).length =xs.length*3:=by
 induction xs with
 |nil=>rfl
 |cons a r ih=>rw[List.flatMap_cons,List.length_append,ih];simp[cCAr];omega
theorem VaR.cells {w:World}{S:Nat->Prop}{Z:Prop}:∀ {xs:List Va} {b o:Nat},VaR w S Z xs b o->(∀x∈xs,zem x)/\∀j u,(xs.flatMap cCVa)[j]?=some u->w.cell? ⟨b,o+j,none⟩=some u
 | [],_,_,_=>⟨λ_ h=>by simp at h,λj u h=>by simp at h⟩
 |x::r,b,o,h=>by
  obtain⟨⟨_,_,h1,h2,h3⟩,hr⟩:=h;have ih:=VaR.cells hr;refine⟨λy hy=>?_,λj u hj=>?_⟩
  ·rcases List.mem_cons.1 hy with rfl|hy
   ·exact h1
   ·exact ih.1 y hy
  ·rw[List.flatMap_cons]at hj
   match j,hj with
   |0,hj=>simp[cCVa]at hj;subst hj;exact h2
   |1,hj=>simp[cCVa]at hj;subst hj;exact h3
   |j+2,hj=>
    have:=ih.2 j u (by simpa[cCVa]using hj);rw[show o+(j+2)=o+2+j from by omega];exact this
theorem ArR.cells {w:World}{S:Nat->Prop}{Z:Prop}:∀ {xs:List Arr} {b o:Nat},ArR w S Z xs b o->(∀x∈xs,zeT x)/\∀j u,(xs.flatMap cCAr)[j]?=some u->w.cell? ⟨b,o+j,none⟩=some u
 | [],_,_,_=>⟨λ_ h=>by simp at h,λj u h=>by simp at h⟩
 |x::r,b,o,h=>by
  obtain⟨⟨_,_,h0,h1,h2,h3,h4⟩,hr⟩:=h;have ih:=ArR.cells hr;refine⟨λy hy=>?_,λj u hj=>?_⟩
  ·rcases List.mem_cons.1 hy with rfl|hy
   ·exact⟨h0,h1⟩
   ·exact ih.1 y hy
  ·rw[List.flatMap_cons]at hj
   match j,hj with
   |0,hj=>simp[cCAr]at hj;subst hj;exact h2
   |1,hj=>simp[cCAr]at hj;subst hj;exact h3
   |2,hj=>simp[cCAr]at hj;subst hj;exact h4
   |j+3,hj=>
    have:=ih.2 j u (by simpa[cCAr]using hj);rw[show o+(j+3)=o+3+j from by omega];exact this
theorem zkE (xs:List Va):∀u∈xs.flatMap cCVa,u.oneCell'=true:=λu hu=>by
 obtain⟨x,_,hx⟩:=List.mem_flatMap.1 hu;simp only[cCVa,List.mem_cons,List.not_mem_nil,or_false]at hx;rcases hx with rfl|rfl<;>rfl
theorem zkF (xs:List Arr):∀u∈xs.flatMap cCAr,u.oneCell'=true:=λu hu=>by
 obtain⟨x,_,hx⟩:=List.mem_flatMap.1 hu;simp only[cCAr,List.mem_cons,List.not_mem_nil,or_false]at hx;rcases hx with rfl|rfl|rfl<;>rfl
theorem zgI {α:Type}{one:List Tk->PR α}{s:List UInt8}:∀(f:Nat) {acc:List α} {l:List Tk} {xs:List α} {r:List Tk},0 < f->zaE one s f acc l= .ok xs r->0 < xs.length
 |f+1,acc,l,xs,r,_,h=>by
  unfold zaE at h;obtain⟨x,q,h1,h2⟩:=PR.then_ok h;split at h2
  ·cases f with
   |zero=>
    unfold zaE at h2;simp only[PR.ok.injEq]at h2;rw[<-h2.1];simp
   |succ f=>exact zgI (f+1) (by omega) h2
  ·obtain⟨u,q2,h3,h4⟩:=PR.then_ok h2;simp only[PR.ok.injEq]at h4;rw[<-h4.1];simp
theorem zgJ {α:Type}{one:List Tk->PR α}{s:List UInt8}{l:List Tk}{xs:List α}{r:List Tk}(hl:l≠ [])(h:zaS one s false l= .ok xs r):0 < xs.length:=by
 unfold zaS at h;simp only[Bool.false_and]at h;exact zgI _ (List.length_pos_iff.2 hl) h
theorem zgK {α:Type}{one:List Tk->PR α}(hs:Shr one){s:List UInt8}:∀(f:Nat) {acc:List α} {l:List Tk} {xs:List α} {r:List Tk},zaE one s f acc l= .ok xs r->xs.length+r.length<=acc.length+l.length+1
 |0,acc,l,xs,r,h=>by
  unfold zaE at h;simp only[PR.ok.injEq]at h;rw[<-h.1,<-h.2];omega
 |f+1,acc,l,xs,r,h=>by
  unfold zaE at h;obtain⟨x,q,h1,h2⟩:=PR.then_ok h;have hq:=hs _ _ _ h1;split at h2
  ·rename_i hm;have hp:=zcP (zas hm (by decide));have:=zgK hs f h2;rw[List.length_append,List.length_tail]at this;simp at this;omega
  ·obtain⟨u,q2,h3,h4⟩:=PR.then_ok h2;simp only[PR.ok.injEq]at h4;have:=zbF h3;rw[<-h4.1,<-h4.2,this,List.length_tail];simp;omega
theorem zfg {α:Type}{one:List Tk->PR α}(hs:Shr one){s:List UInt8}{l:List Tk}{xs:List α}{r:List Tk}(h:zaS one s false l= .ok xs r):xs.length+r.length<=l.length+1:=by
 unfold zaS at h;simp only[Bool.false_and]at h;have:=zgK hs _ h;simpa using this
def pcC (x:Prc)(A:Option Addr)(c:Nat)(D:Option Addr)(e:Nat):List Value:= [.string x.nm,.slice A x.params.length c,.slice D x.body.len e,.int .i64 x.at_]
def PcRow (w:World)(S:Nat->Prop):List Prc->List Value->Prop
 | [],cs=>cs= []
 |x::xs,cs=>∃A c D e xh,cs=pcC x A c D e++xh/\in64 x.at_/\SlR (VaR w S False x.params) x.params.length 24 A c/\SlR (StR w S False x.body) x.body.len 128 D e/\PcRow w S xs xh
theorem PcRow.imp {w w':World}{S S':Nat->Prop}(hf:SameS S w w')(hs:∀b,S b->S' b):∀ {xs:List Prc} {cs:List Value},PcRow w S xs cs->PcRow w' S' xs cs
 | [],_,h=>h
 |x::xs,cs,h=>by
  obtain⟨A,c,D,e,xh,h0,h1,h2,h3,h5⟩:=h;exact⟨A,c,D,e,xh,h0,h1,h2.imp λ_ _ h=>VaR.more hs (VaR.keep hf h),h3.imp λ_ _ h=>StR.more hs (StR.keep hf h),PcRow.imp hf hs h5⟩
theorem PcRow.snoc {w:World}{S:Nat->Prop}{y:Prc}{A:Option Addr}{c:Nat}{D:Option Addr}{e:Nat}(hy:in64 y.at_/\SlR (VaR w S False y.params) y.params.length 24 A c/\SlR (StR w S False y.body) y.body.len 128 D e):∀ {xs:List Prc} {cs:List Value},PcRow w S xs cs->PcRow w S (xs++ [y]) (cs++pcC y A c D e)
 | [],cs,h=>by
  have h:cs= []:=h;subst h;exact⟨A,c,D,e, [],by simp,hy.1,hy.2.1,hy.2.2,rfl⟩
 |x::xs,cs,h=>by
  obtain⟨A',c',D',e',xh,h0,h1,h2,h3,h5⟩:=h;exact⟨A',c',D',e',xh++pcC y A c D e,by rw[h0,List.append_assoc],h1,h2,h3,PcRow.snoc hy h5⟩
theorem PcRow.prR {w:World}{S:Nat->Prop}{g:Nat}(hg:S g):∀ {xs:List Prc} {cs:List Value} {o:Nat},PcRow w S xs cs->(∀j u,cs[j]?=some u->w.cell? ⟨g,o+j,none⟩=some u)->PrR w S False xs g o
 | [],_,_,_,_=>trivial
 |x::xs,cs,o,h,hc=>by
  obtain⟨A,c,D,e,xh,h0,h1,h2,h3,h5⟩:=h;subst h0;refine⟨⟨hg,λh=>absurd h id,h1,hc 0 _ rfl,hc 3 _ rfl⟩,⟨_,_,hc 1 _ rfl,h2⟩,⟨_,_,hc 2 _ rfl,h3⟩,?_⟩;refine PcRow.prR hg h5 λj u hj=>?_;have:=hc (4+j) u (by rw[List.getElem?_append_right (by simp[pcC])];simpa[pcC]using hj);rw[Nat.add_assoc];exact this
def zfO (vx:List Va×List Arr)(r:List Tk):PR Tre:=
 (zdD r.length [] r).then λps r=>(zal [109,97,105,110] r).then λ_ r=>(zag 24 r).then λb r=>if 1 < r.length then .err 90 (hdT r).at_ else .ok ⟨vx.1,vx.2,ps,zai b⟩ r
theorem zoP (l:List Tk):zi4 l=(zeU l.length [] [] l).then zfO:=rfl
structure TrX (C:Pcx)(w:World)(R:PR Tre)(vs:List Va)(xs:List Arr)(vV vA:Value)(l:List Tk)(W:World):Prop where
 eq:∃f,R=(zeU f vs xs l).then zfO/\l.length<=f
 box:Bk W w.heap.size 27 #[vV,vA,.slice none 0 0,.slice none 0 0]
 rowV:W.ownsRow (w.heap.size+1) 77 2 vV vs.length (vs.flatMap cCVa)
 rowA:W.ownsRow (w.heap.size+1) 61 3 vA xs.length (xs.flatMap cCAr)
 okV:∀x∈vs,zem x
 okA:∀x∈xs,zeT x
 apart:∀b,vV.ownBlock=some b->vA.ownBlock=some b->False
 few:vs.length+xs.length+l.length<=5000
 pa:PaAt C W l 0
 fr:Fr (PT C w.heap.size) w W
theorem TrX.next {C:Pcx}{w wr w2:World}{R:PR Tre}{vs:List Va}{xs:List Arr}{vV vA:Value}{l:List Tk}(hL:C.P < w.heap.size/\C.TB < w.heap.size/\C.W0.heap.size<=w.heap.size)(hx:TrX C w R vs xs vV vA l wr)(hf:Fr C.T wr w2)(hp:PaAt C w2 l 0):TrX C w R vs xs vV vA l w2:=
 ⟨hx.eq,hx.box.fr hf λe=>by have e:w.heap.size=C.P:=e;omega,zah hx.rowV hf (by omega),zah hx.rowA hf (by omega),hx.okV,hx.okA,hx.apart,hx.few,hp,hx.fr.trans (PT.l hf)⟩
theorem TrX.stepV {C:Pcx}{w wr w7 w9:World}{R:PR Tre}{vs:List Va}{xs:List Arr}{vV vA:Value}{l r:List Tk}{ps:List Va}{A:Option Addr}{q g cap f:Nat}
  (hL:C.P < w.heap.size/\C.TB < w.heap.size/\C.W0.heap.size<=w.heap.size) (hx:TrX C w R vs xs vV vA l wr)
  (hR:R=(zeU f (vs++ps) xs r).then zfO) (RZ:r.length<=f) (QP:ps.length+r.length<=l.length)
  (FC:∀x∈ps,zem x) (hp:PaAt C w7 r 0) (hf:Fr C.T wr w7)
  (Ha:w9.ownsRow (w.heap.size+1) 77 2 (.slice (some ⟨g,0,none⟩) (vs.length+ps.length) cap) (vs.length+ps.length) (vs.flatMap cCVa++ps.flatMap cCVa))
  (hg:w7.grownBy w9 vV.ownBlock) (GN:vV.ownBlock=some g\/g=w7.heap.size) (w10:World)
  (Gy:w10=w9.setCell ⟨w.heap.size,0,none⟩ (.slice (some ⟨g,0,none⟩) (vs.length+ps.length) cap)):
  TrX C w R (vs++ps) xs (.slice (some ⟨g,0,none⟩) (vs.length+ps.length) cap) vA r w10:=by
 have NE:=hx.rowV.lt;have NF:=hx.rowA.lt;have JS:=hx.box.lt;have RT:=hf.size;have L6:=hg.size;have GY:=Ha.lt g rfl;have hz:w10.heap.size=w9.heap.size:=by rw[Gy];simp
 have Lm:Fr (λb=>vV.ownBlock=some b) w7 w9:=Fr.grown hg λg e _=>e;have Wn:Fr (λb=>b=w.heap.size) w9 w10:=by rw[Gy];exact aJ aH
 have Ps:Fr (λb=>b=C.P\/vV.ownBlock=some b\/b=w.heap.size) wr w10:=((hf.mono λi _ h=>Or.inl h).trans (Lm.mono λi _ h=>Or.inr (Or.inl h))).trans (Wn.mono λi _ h=>Or.inr (Or.inr h));have Gh:vA.ownBlock=none\/vA.ownBlock≠some g:=by
  rcases Option.eq_none_or_eq_some vA.ownBlock with h|⟨b,h⟩
  ·exact .inl h
  ·refine .inr λe=>?_;rw[h]at e;have e:b=g:=Option.some.inj e;subst e;rcases GN with h2|h2
   ·exact hx.apart b h2 h
   ·have:=(NF b h).2;omega
 have Pk:Bk w9 w.heap.size 27 #[vV,vA,.slice none 0 0,.slice none 0 0]:=(hx.box.fr hf λe=>by have e:w.heap.size=C.P:=e;omega).fr Lm λe=>by have:=(NE _ e).1;omega
 have QR:w10.ownsRow (w.heap.size+1) 61 3 vA xs.length (xs.flatMap cCAr):=by
  have h1:=zah hx.rowA hf (by omega);have h2:=h1.kept hg (by
   rcases Option.eq_none_or_eq_some vA.ownBlock with h|⟨b,h⟩
   ·exact .inl h
   ·refine .inr λe=>?_;rw[h]at e;exact hx.apart b e.symm h)
  rw[Gy];exact ownsRow_setCell_below h2 (by show w.heap.size < w.heap.size+1;omega) _
 have Hi:w10.ownsRow (w.heap.size+1) 77 2 (.slice (some ⟨g,0,none⟩) (vs.length+ps.length) cap) (vs++ps).length ((vs++ps).flatMap cCVa):=by
  rw[List.length_append,List.flatMap_append,Gy];exact ownsRow_setCell_below Ha (by show w.heap.size < w.heap.size+1;omega) _
 refine⟨⟨f,hR,RZ⟩,?_,Hi,QR,?_,?_,?_,?_,?_,?_⟩
 ·rw[Gy];have:=Pk.set_ 0 (.slice (some ⟨g,0,none⟩) (vs.length+ps.length) cap);simpa using this
 ·exact λy hy=>(List.mem_append.1 hy).elim (hx.okV y) (FC y)
 ·exact hx.okA
 ·intro b e1 e2;have e1:g=b:=by simpa[Value.ownBlock]using e1
  rcases Gh with h|h
  ·rw[h]at e2;cases e2
  ·exact h (by rw[e1];exact e2)
 ·have:=hx.few;simp only[List.length_append];omega
 ·exact hp.fr ((Lm.mono (T':=λb=>vV.ownBlock=some b\/b=w.heap.size) λi _ h=>Or.inl h).trans (Wn.mono λi _ h=>Or.inr h)) (λe=>by rcases e with e|e;(have:=(NE _ e).1;omega);omega) (λe=>by rcases e with e|e;(have:=(NE _ e).1;omega);omega) (λi hi e=>by rcases e with e|e;(have:=(NE _ e).1;omega);omega)
 ·refine((hx.fr.mono (T':=λb=>b=C.P\/vV.ownBlock=some b\/b=w.heap.size) λi _ h=>?_).trans Ps).mono λi hi e=>?_
  ·rcases h with h|h
   ·exact .inl h
   ·exact .inr (.inr h)
  ·rcases e with e|e|e
   ·exact .inl e
   ·have:=(NE _ e).1;omega
   ·exact .inr e
theorem TrX.stepA {C:Pcx}{w wr w7 w9:World}{R:PR Tre}{vs:List Va}{xs:List Arr}{vV vA:Value}{l r:List Tk}{ps:List Arr}{A:Option Addr}{q g cap f:Nat}
  (hL:C.P < w.heap.size/\C.TB < w.heap.size/\C.W0.heap.size<=w.heap.size) (hx:TrX C w R vs xs vV vA l wr)
  (hR:R=(zeU f vs (xs++ps) r).then zfO) (RZ:r.length<=f) (QP:ps.length+r.length<=l.length)
  (FC:∀x∈ps,zeT x) (hp:PaAt C w7 r 0) (hf:Fr C.T wr w7)
  (Ha:w9.ownsRow (w.heap.size+1) 61 3 (.slice (some ⟨g,0,none⟩) (xs.length+ps.length) cap) (xs.length+ps.length) (xs.flatMap cCAr++ps.flatMap cCAr))
  (hg:w7.grownBy w9 vA.ownBlock) (GN:vA.ownBlock=some g\/g=w7.heap.size) (w10:World)
  (Gy:w10=w9.setCell ⟨w.heap.size,1,none⟩ (.slice (some ⟨g,0,none⟩) (xs.length+ps.length) cap)):
  TrX C w R vs (xs++ps) vV (.slice (some ⟨g,0,none⟩) (xs.length+ps.length) cap) r w10:=by
 have NE:=hx.rowV.lt;have NF:=hx.rowA.lt;have JS:=hx.box.lt;have RT:=hf.size;have L6:=hg.size;have GY:=Ha.lt g rfl;have hz:w10.heap.size=w9.heap.size:=by rw[Gy];simp
 have Lm:Fr (λb=>vA.ownBlock=some b) w7 w9:=Fr.grown hg λg e _=>e;have Wn:Fr (λb=>b=w.heap.size) w9 w10:=by rw[Gy];exact aJ aH
 have Ps:Fr (λb=>b=C.P\/vA.ownBlock=some b\/b=w.heap.size) wr w10:=((hf.mono λi _ h=>Or.inl h).trans (Lm.mono λi _ h=>Or.inr (Or.inl h))).trans (Wn.mono λi _ h=>Or.inr (Or.inr h));have Gh:vV.ownBlock=none\/vV.ownBlock≠some g:=by
  rcases Option.eq_none_or_eq_some vV.ownBlock with h|⟨b,h⟩
  ·exact .inl h
  ·refine .inr λe=>?_;rw[h]at e;have e:b=g:=Option.some.inj e;subst e;rcases GN with h2|h2
   ·exact hx.apart b h h2
   ·have:=(NE b h).2;omega
 have Pk:Bk w9 w.heap.size 27 #[vV,vA,.slice none 0 0,.slice none 0 0]:=(hx.box.fr hf λe=>by have e:w.heap.size=C.P:=e;omega).fr Lm λe=>by have:=(NF _ e).1;omega
 have QR:w10.ownsRow (w.heap.size+1) 77 2 vV vs.length (vs.flatMap cCVa):=by
  have h1:=zah hx.rowV hf (by omega);have h2:=h1.kept hg (by
   rcases Option.eq_none_or_eq_some vV.ownBlock with h|⟨b,h⟩
   ·exact .inl h
   ·refine .inr λe=>?_;rw[h]at e;exact hx.apart b h e.symm)
  rw[Gy];exact ownsRow_setCell_below h2 (by show w.heap.size < w.heap.size+1;omega) _
 have Hi:w10.ownsRow (w.heap.size+1) 61 3 (.slice (some ⟨g,0,none⟩) (xs.length+ps.length) cap) (xs++ps).length ((xs++ps).flatMap cCAr):=by
  rw[List.length_append,List.flatMap_append,Gy];exact ownsRow_setCell_below Ha (by show w.heap.size < w.heap.size+1;omega) _
 refine⟨⟨f,hR,RZ⟩,?_,QR,Hi,?_,?_,?_,?_,?_,?_⟩
 ·rw[Gy];have:=Pk.set_ 1 (.slice (some ⟨g,0,none⟩) (xs.length+ps.length) cap);simpa using this
 ·exact hx.okV
 ·exact λy hy=>(List.mem_append.1 hy).elim (hx.okA y) (FC y)
 ·intro b e1 e2;have e2:g=b:=by simpa[Value.ownBlock]using e2
  rcases Gh with h|h
  ·rw[h]at e1;cases e1
  ·exact h (by rw[e2];exact e1)
 ·have:=hx.few;simp only[List.length_append];omega
 ·exact hp.fr ((Lm.mono (T':=λb=>vA.ownBlock=some b\/b=w.heap.size) λi _ h=>Or.inl h).trans (Wn.mono λi _ h=>Or.inr h)) (λe=>by rcases e with e|e;(have:=(NF _ e).1;omega);omega) (λe=>by rcases e with e|e;(have:=(NF _ e).1;omega);omega) (λi hi e=>by rcases e with e|e;(have:=(NF _ e).1;omega);omega)
 ·refine((hx.fr.mono (T':=λb=>b=C.P\/vA.ownBlock=some b\/b=w.heap.size) λi _ h=>?_).trans Ps).mono λi hi e=>?_
  ·rcases h with h|h
   ·exact .inl h
   ·exact .inr (.inr h)
  ·rcases e with e|e|e
   ·exact .inl e
   ·have:=(NF _ e).1;omega
   ·exact .inr e
def zhq (vx:List Va×List Arr)(ps:List Prc)(r:List Tk):PR Tre:=
 (zal [109,97,105,110] r).then λ_ r=>(zag 24 r).then λb r=>if 1 < r.length then .err 90 (hdT r).at_ else .ok ⟨vx.1,vx.2,ps,zai b⟩ r
theorem zoQ (vx:List Va×List Arr)(r:List Tk):zfO vx r=(zdD r.length [] r).then (zhq vx):=rfl
theorem PcRow.len {w:World}{S:Nat->Prop}:∀ {xs:List Prc} {cs:List Value},PcRow w S xs cs->cs.length=xs.length*4
 | [],cs,h=>by
  have h:cs= []:=h;subst h;rfl
 |x::xs,cs,h=>by
  obtain⟨A,c,D,e,xh,h0,h1,h2,h3,h5⟩:=h;rw[h0,List.length_append,PcRow.len h5];simp[pcC];omega
structure TrY (C:Pcx)(w:World)(R:PR Tre)(vx:List Va×List Arr)(Av:Option Addr)(cv:Nat)(Aa:Option Addr)(ca:Nat)(vP:Value)(ps:List Prc)(cs:List Value)(l:List Tk)(W:World):Prop where
 eq:∃f,R=(zdD f ps l).then (zhq vx)/\l.length<=f
 box:Bk W w.heap.size 27 #[.slice Av vx.1.length cv,.slice Aa vx.2.length ca,vP,.slice none 0 0]
 vars:SlR (VaR W (NewR (w.heap.size+1) vP W) False vx.1) vx.1.length 24 Av cv
 arrs:SlR (ArR W (NewR (w.heap.size+1) vP W) False vx.2) vx.2.length 32 Aa ca
 row:W.ownsRow (w.heap.size+1) 63 4 vP ps.length cs
 rows:PcRow W (NewR (w.heap.size+1) vP W) ps cs
 few:ps.length+l.length<=5000
 pa:PaAt C W l 0
 fr:Fr (PT C w.heap.size) w W
theorem TrY.start {C:Pcx}{w W:World}{R:PR Tre}{vs:List Va}{xs:List Arr}{vV vA:Value}{l:List Tk}(hx:TrX C w R vs xs vV vA l W)(hR:R=zfO (vs,xs) l):
  ∃Av cv Aa ca,vV= .slice Av vs.length cv/\vA= .slice Aa xs.length ca/\TrY C w R (vs,xs) Av cv Aa ca (.slice none 0 0) [] [] l W:=by
 have Fl:=hx.few;obtain⟨Av,cv,hv,X9⟩:=zdh hx.rowV hx.okV (by omega);obtain⟨Aa,ca,ha,vC⟩:=zdi hx.rowA hx.okA (by omega);have Wo:=hx.box;rw[hv,ha]at Wo;have hS:∀b,New (w.heap.size+1) W b->NewR (w.heap.size+1) (.slice none 0 0) W b:=λb hb=>⟨hb.1,hb.2,by simp[Value.ownBlock]⟩;rw[zoQ]at hR;exact⟨Av,cv,Aa,ca,hv,ha,⟨_,hR,aL _⟩,Wo,X9.imp λ_ _ h=>VaR.more hS h,vC.imp λ_ _ h=>ArR.more hS h,World.ownsRow_nil _ _ _ _,rfl,by simpa using (by omega:l.length<=5000),hx.pa,hx.fr⟩
theorem TrY.next {C:Pcx}{w wr w2:World}{R:PR Tre}{vx:List Va×List Arr}{Av Aa:Option Addr}{cv ca:Nat}{vP:Value}{ps:List Prc}{cs:List Value}{l:List Tk}(hL:C.P < w.heap.size/\C.TB < w.heap.size/\C.W0.heap.size<=w.heap.size)(hx:TrY C w R vx Av cv Aa ca vP ps cs l wr)(hf:Fr C.T wr w2)(hp:PaAt C w2 l 0):
  TrY C w R vx Av cv Aa ca vP ps cs l w2:=by
 have hs:=hf.size;have GZ:SameS (NewR (w.heap.size+1) vP wr) wr w2:=hf.same λb hb=>⟨hb.2.1,λe=>by have e:b=C.P:=e;have:=hb.1;omega⟩;have Jv:∀b,NewR (w.heap.size+1) vP wr b->NewR (w.heap.size+1) vP w2 b:=λb hb=>⟨hb.1,aM hb.2.1 hs,hb.2.2⟩;exact⟨hx.eq,hx.box.fr hf λe=>by have e:w.heap.size=C.P:=e;omega,hx.vars.imp λ_ _ h=>VaR.more Jv (VaR.keep GZ h),hx.arrs.imp λ_ _ h=>ArR.more Jv (ArR.keep GZ h),zah hx.row hf (by omega),hx.rows.imp GZ Jv,hx.few,hp,hx.fr.trans (PT.l hf)⟩
theorem TrY.step {C:Pcx}{w wr w7 w9:World}{R:PR Tre}{vx:List Va×List Arr}{Av Aa:Option Addr}{cv ca:Nat}{vP:Value}{ps:List Prc}{cs:List Value}{l r2:List Tk}{x:Prc}{A D:Option Addr}{c e g cap f m:Nat}(hm:m=ps.length)
  (hL:C.P < w.heap.size/\C.TB < w.heap.size/\C.W0.heap.size<=w.heap.size) (hx:TrY C w R vx Av cv Aa ca vP ps cs l wr)
  (hR:R=(zdD f (ps++ [x]) r2).then (zhq vx)) (RZ:r2.length<=f) (GT:r2.length < l.length)
  (hv:in64 x.at_/\SlR (VaR w7 (New wr.heap.size w7) False x.params) x.params.length 24 A c/\SlR (StR w7 (New wr.heap.size w7) False x.body) x.body.len 128 D e)
  (hp:PaAt C w7 r2 0) (hf:Fr C.T wr w7) (W:World) (Kx:Fr NoT w7 W)
  (Ha:w9.ownsRow (w.heap.size+1) 63 4 (.slice (some ⟨g,0,none⟩) (m+1) cap) (m+1) (cs++pcC x A c D e))
  (hg:W.grownBy w9 vP.ownBlock) (GN:vP.ownBlock=some g\/g=W.heap.size) (w10:World)
  (Gy:w10=w9.setCell ⟨w.heap.size,2,none⟩ (.slice (some ⟨g,0,none⟩) (m+1) cap)):
  TrY C w R vx Av cv Aa ca (.slice (some ⟨g,0,none⟩) (ps.length+1) cap) (ps++ [x]) (cs++pcC x A c D e) r2 w10:=by
 subst hm;have Hk:=hx.row.lt;have JS:=hx.box.lt;have Vf:=hx.fr.size;have RT:=hf.size;have ML:=Kx.size;have L6:=hg.size;have GC:=hx.rows.len;have GY:=Ha.lt g rfl;have We:g≠w.heap.size:=by omega
 have Zo:g≠C.P:=by omega
 have Wf:w10.heap.size=w9.heap.size:=by rw[Gy];simp
 have ZF:Fr (λb=>b=w.heap.size) w9 w10:=by rw[Gy];exact aJ aH
 have Wg:Fr (λb=>vP.ownBlock=some b) W w9:=Fr.grown hg λg e _=>e;have Lm:Fr (λb=>vP.ownBlock=some b) w7 w9:=Kx.any.trans Wg;have QK:Fr (λb=>vP.ownBlock=some b\/b=g\/b=w.heap.size) w7 w10:=(Lm.mono λi _ h=>Or.inl h).trans (ZF.mono λi _ h=>Or.inr (Or.inr h));have Ps:Fr (λb=>b=C.P\/vP.ownBlock=some b\/b=g\/b=w.heap.size) wr w10:=(hf.mono λi _ h=>Or.inl h).trans (QK.mono λi _ h=>Or.inr h);have N7:∀b,b < w7.heap.size->vP.ownBlock≠some b->b≠g:=λb hb hn e=>by
  subst e;rcases GN with h|h
  ·exact hn h
  ·omega
 have Jx:vP.ownBlock≠some w.heap.size:=λe=>by have:=(Hk _ e).1;omega
 have Pt:vP.ownBlock≠some C.P:=λe=>by have:=(Hk _ e).1;omega
 have Zp:vP.ownBlock≠some C.TB:=λe=>by have:=(Hk _ e).1;omega
 have GZ:SameS (NewR (w.heap.size+1) vP wr) wr w10:=Ps.same λb hb=>⟨hb.2.1,λe=>by
  have h1:=hb.1;have h2:=hb.2.1;have h3:=hb.2.2;rcases e with e|e|e|e
  ·omega
  ·exact h3 e
  ·exact N7 b (by omega) h3 e
  ·omega⟩
 have Jv:∀b,NewR (w.heap.size+1) vP wr b->NewR (w.heap.size+1) (.slice (some ⟨g,0,none⟩) (ps.length+1) cap) w10 b:=λb hb=>⟨hb.1,by have:=hb.2.1;omega,λe=>by
  have h2:=hb.2.1;have e:g=b:=by simpa[Value.ownBlock]using e
  exact N7 b (by omega) hb.2.2 e.symm⟩
 have QS:SameS (New wr.heap.size w7) w7 w10:=QK.same λb hb=>⟨hb.2,λe=>by
  have h1:=hb.1;have h2:=hb.2;rcases e with e|e|e
  ·have:=(Hk _ e).2;omega
  ·exact N7 b h2 (λe=>by have:=(Hk _ e).2;omega) e
  ·omega⟩
 have QT:∀b,New wr.heap.size w7 b->NewR (w.heap.size+1) (.slice (some ⟨g,0,none⟩) (ps.length+1) cap) w10 b:=λb hb=>⟨by have:=hb.1;omega,by have:=hb.2;omega,λe=>by
  have h1:=hb.1;have h2:=hb.2;have e:g=b:=by simpa[Value.ownBlock]using e
  exact N7 b h2 (λe=>by have:=(Hk _ e).2;omega) e.symm⟩
 refine⟨⟨f,hR,RZ⟩,?_,hx.vars.imp λ_ _ h=>VaR.more Jv (VaR.keep GZ h),hx.arrs.imp λ_ _ h=>ArR.more Jv (ArR.keep GZ h),?_,?_,?_,?_,?_⟩
 ·have h1:Bk w9 w.heap.size 27 #[.slice Av vx.1.length cv,.slice Aa vx.2.length ca,vP,.slice none 0 0]:=(hx.box.fr hf (λe=>by have e:w.heap.size=C.P:=e;omega)).fr Lm Jx;rw[Gy];simpa using h1.set_ 2 (.slice (some ⟨g,0,none⟩) (ps.length+1) cap)
 ·rw[Gy];have:=ownsRow_setCell_below Ha (a:=⟨w.heap.size,2,none⟩) (by show w.heap.size < w.heap.size+1;omega) (.slice (some ⟨g,0,none⟩) (ps.length+1) cap);simpa using this
 ·exact PcRow.snoc ⟨hv.1,hv.2.1.imp λ_ _ h=>VaR.more QT (VaR.keep QS h),hv.2.2.imp λ_ _ h=>StR.more QT (StR.keep QS h)⟩ (hx.rows.imp GZ Jv)
 ·have:=hx.few;rw[List.length_append,List.length_cons,List.length_nil];omega
 ·refine hp.fr QK (λe=>?_) (λe=>?_) (λi hi e=>?_)
  ·rcases e with e|e|e
   ·exact Pt e
   ·exact Zo e.symm
   ·omega
  ·rcases e with e|e|e
   ·exact Zp e
   ·omega
   ·omega
  ·rcases e with e|e|e
   ·have:=(Hk _ e).1;omega
   ·omega
   ·omega
 ·refine((hx.fr.mono (T':=λb=>b=C.P\/vP.ownBlock=some b\/b=g\/b=w.heap.size) λi _ h=>?_).trans Ps).mono λi hi e=>?_
  ·rcases h with h|h
   ·exact .inl h
   ·exact .inr (.inr (.inr h))
  ·rcases e with e|e|e|e
   ·exact .inl e
   ·have:=(Hk _ e).1;omega
   ·omega
   ·exact .inr e
theorem zpQ {L:Nat}{w:World}{v:Value}{ps:List Prc}{cs:List Value}{S:Nat->Prop}(hr:w.ownsRow L 63 4 v ps.length cs)(hx:PcRow w S ps cs)(hs:∀b,S b->L<=b/\b < w.heap.size)(hf:ps.length<=5001):∃Ap cp,v= .slice Ap ps.length cp/\SlR (PrR w (New L w) False ps) ps.length 72 Ap cp:=by
 rcases hr.2 with⟨rfl,h0⟩|⟨g,cap,cur,rfl,hb,hg,hn,hc,Gp,ht⟩
 ·exact⟨none,0,by rw[h0],by rw[h0];exact⟨aL _,⟨by decide,by omega⟩,λh=>absurd h (Nat.lt_irrefl 0)⟩⟩
 ·have hl:g < w.heap.size:=(Array.getElem?_eq_some_iff.1 hg).1;have Nv:cap<=9223372036854775807:=by unfold maxLen at hc;omega
  suffices GK:PrR w (New L w) False ps g 0 by
   exact⟨some ⟨g,0,none⟩,cap,rfl,hn,⟨Nv,by omega⟩,λ_=>⟨g,0,rfl,GK⟩⟩
  refine PcRow.prR ⟨hb,hl⟩ (PcRow.imp (SameS.refl _ _) hs hx) λj u hj=>?_;have:=hr.cells (g:=g) rfl j u hj;have Ll:(⟨g,0,none⟩:Addr).add j=⟨g,0+j,none⟩:=by
   rw[Nat.zero_add];unfold Addr.add;split<;>simp_all
  rw[Ll]at this;exact this
def TrV (C:Pcx)(r:PR Tre)(W:World)(e:Ending)(w':World):Prop:=
 match r with
 | .err c a=>e=zaf c a/\Fr C.T W w'
 | .ok t l=>∃Av Aa Ap Am cv ca cp cm,e= .returned (trV t Av Aa Ap Am cv ca cp cm)/\TrR w' (New W.heap.size w') False t Av Aa Ap Am cv ca cp cm/\Fr C.T W w'
theorem PT.drop {C:Pcx}{w w7:World}(hf:Fr (PT C w.heap.size) w w7):Fr C.T w w7:=
 hf.mono λi hi e=>by
  rcases e with e|e
  ·exact e
  ·omega
theorem zcl {C:Pcx}{w w7:World}{c a:Int}(hf:Fr (PT C w.heap.size) w w7):TrV C (.err c a) w (zaf c a) w7:=⟨rfl,PT.drop hf⟩
theorem zmR {C:Pcx}{w wr w7 w10:World}{R:PR Tre}{vx:List Va×List Arr}{Av Aa:Option Addr}{cv ca:Nat}{vP:Value}{ps:List Prc}{cs:List Value}{l r:List Tk}{b:List St}{Am:Option Addr}{cm:Nat}
  (hL:C.P < w.heap.size/\C.TB < w.heap.size/\C.W0.heap.size<=w.heap.size) (hx:TrY C w R vx Av cv Aa ca vP ps cs l wr) (hf:Fr C.T wr w7)
  (hv:SlR (StR w7 (New wr.heap.size w7) False (zai b)) (zai b).len 128 Am cm) (Gy:w10=w7.setCell ⟨w.heap.size,3,none⟩ (.slice Am (zai b).len cm)):
  ∃Ap cp,vP= .slice Ap ps.length cp/\Bk w10 w.heap.size 27 #[.slice Av vx.1.length cv,.slice Aa vx.2.length ca,.slice Ap ps.length cp,.slice Am (zai b).len cm]/\TrV C (.ok ⟨vx.1,vx.2,ps,zai b⟩ r) w (.returned (.agg #[.slice Av vx.1.length cv,.slice Aa vx.2.length ca,.slice Ap ps.length cp,.slice Am (zai b).len cm])) w10:=by
 have Fl:=hx.few;have Vf:=hx.fr.size;have RT:=hf.size;have JS:=hx.box.lt;have hz:w10.heap.size=w7.heap.size:=by rw[Gy];simp
 have jJ:Fr (λb=>b=w.heap.size) w7 w10:=by rw[Gy];exact aJ aH
 obtain⟨Ap,cp,Pt,GN⟩:=zpQ (L:=w.heap.size+1) hx.row hx.rows (λb hb=>⟨hb.1,hb.2.1⟩) (by omega);have Hb:Fr (λb=>b=C.P\/b=w.heap.size) wr w10:=(hf.mono λi _ h=>Or.inl h).trans (jJ.mono λi _ h=>Or.inr h);have GZ:SameS (NewR (w.heap.size+1) vP wr) wr w10:=Hb.same λb hb=>⟨hb.2.1,λe=>by have:=hb.1;rcases e with e|e<;>omega⟩;have Wp:SameS (New (w.heap.size+1) wr) wr w10:=Hb.same λb hb=>⟨hb.2,λe=>by have:=hb.1;rcases e with e|e<;>omega⟩;have Wq:SameS (New wr.heap.size w7) w7 w10:=jJ.same λb hb=>⟨hb.2,λe=>by have e:b=w.heap.size:=e;have:=hb.1;omega⟩;have Jn:∀b,NewR (w.heap.size+1) vP wr b->New w.heap.size w10 b:=λb hb=>⟨by have:=hb.1;omega,by have:=hb.2.1;omega⟩;have JY:∀b,New (w.heap.size+1) wr b->New w.heap.size w10 b:=λb hb=>⟨by have:=hb.1;omega,by have:=hb.2;omega⟩;have JU:∀b,New wr.heap.size w7 b->New w.heap.size w10 b:=λb hb=>⟨by have:=hb.1;omega,by have:=hb.2;omega⟩;refine⟨Ap,cp,Pt,?_,Av,Aa,Ap,Am,cv,ca,cp,cm,rfl,⟨hx.vars.imp λ_ _ h=>VaR.more Jn (VaR.keep GZ h),hx.arrs.imp λ_ _ h=>ArR.more Jn (ArR.keep GZ h),GN.imp λ_ _ h=>PrR.more JY (PrR.keep Wp h),hv.imp λ_ _ h=>StR.more JU (StR.keep Wq h)⟩,?_⟩
 ·have h1:=hx.box.fr hf (λe=>by have e:w.heap.size=C.P:=e;omega);rw[Pt]at h1;rw[Gy];simpa using h1.set_ 3 (.slice Am (zai b).len cm)
 ·exact PT.drop ((hx.fr.trans (Hb.mono λi _ h=>h)))
theorem zij (b o j:Nat):(⟨b,o,none⟩:Addr).add j=⟨b,o+j,none⟩:=by unfold Addr.add;split<;>simp_all
theorem zmS {C:Pcx}{d:Nat}{r:PR (List Arr)}{W w':World}{e:Ending}(h:EndV C d zoM r W e w'):
  (∃(xs:List Arr)(l:List Tk)(A:Option Addr)(c:Nat),r= .ok xs l/\e= .returned (.slice A xs.length c)/\SlR (ArR w' (New W.heap.size w') False xs) xs.length 32 A c/\PaAt C w' l d/\Fr C.T W w')\/
   ∃c a,r= .err c a/\e= .panicked [{v:= .iface 161 (.agg #[.int .i64 c,.int .i64 a]),recovered:=false}]/\Fr C.T W w':=by
 unfold EndV at h;cases r with
 |err c a=>exact .inr ⟨c,a,rfl,h⟩
 |ok x l=>
  obtain⟨v,rfl,⟨A,c,rfl,hs⟩,hp,hf⟩:=h;exact .inl ⟨x,l,A,c,rfl,rfl,hs,hp,hf⟩
theorem zfh:Shr zen:=λl y r e=>by
 obtain⟨x,q,h1,h2⟩:=PR.then_ok e;obtain⟨u,q2,h3,h4⟩:=PR.then_ok h2;obtain⟨n,q3,h5,h6⟩:=PR.then_ok h4;obtain⟨u2,q4,h7,h8⟩:=PR.then_ok h6;simp only[PR.ok.injEq]at h8;have e1:=zb7 h1;have e2:=zbF h3;have e4:=zbF h7;have e3:q3=q2.tail:=by
  unfold zaR at h5;split at h5
  ·simp only[PR.ok.injEq]at h5;exact h5.2.symm
  ·simp at h5
 rw[<-h8.2,e4,e3,e2,e1];simp only[List.length_tail];omega
theorem zmT {C:Pcx}{d:Nat}{r:PR Prc}{W w':World}{e:Ending}(h:EndV C d PcV r W e w'):
  (∃(x:Prc)(l:List Tk)(A:Option Addr)(c:Nat)(D:Option Addr)(q:Nat),r= .ok x l/\e= .returned (.agg #[.string x.nm,.slice A x.params.length c,.slice D x.body.len q,.int .i64 x.at_])/\
   (in64 x.at_/\SlR (VaR w' (New W.heap.size w') False x.params) x.params.length 24 A c/\SlR (StR w' (New W.heap.size w') False x.body) x.body.len 128 D q)/\PaAt C w' l d/\Fr C.T W w')\/
   ∃c a,r= .err c a/\e= .panicked [{v:= .iface 161 (.agg #[.int .i64 c,.int .i64 a]),recovered:=false}]/\Fr C.T W w':=by
 unfold EndV at h;cases r with
 |err c a=>exact .inr ⟨c,a,rfl,h⟩
 |ok x l=>
  obtain⟨v,rfl,⟨A,c,D,q,rfl,hs⟩,hp,hf⟩:=h;exact .inl ⟨x,l,A,c,D,q,rfl,rfl,hs,hp,hf⟩
theorem zmU (C:Pcx)(l:List Tk)(w:World)(hk:C.Ok)(h:PaAt C w l 0):
  Calls Tryz.prog 63 #[.pointer (some ⟨C.P,0,none⟩)] w (TrV C (zi4 l) w):=by
 have JI:= @makeF Tryz.prog;obtain⟨iV,hi,Fg,Hw,G5⟩:=info_parts zkn;have Ya:=aA (aG hi (aG Fg (aG Hw G5)));clear hi Fg Hw G5;obtain⟨iA,hi,Fg,Hw,G5⟩:=info_parts zko;have Vq:=aA (aG hi (aG Fg (aG Hw G5)));clear hi Fg Hw G5;obtain⟨iP,hi,Fg,Hw,G5⟩:=info_parts znS;have Yb:=aA (aG hi (aG Fg (aG Hw G5)));clear hi Fg Hw G5;obtain⟨R,hR⟩:=aF (zi4 l);rw[<-hR];rw[zoP]at hR;have hL:=h.lts;have FR:l.length<=5000:=by
  obtain⟨j,q,e,_⟩:=h.at_;have:=hk.few;rw[e,List.length_drop];omega
 obtain⟨w1,Hc⟩:=aF (w.alloc (.cells #[.slice none 0 0,.slice none 0 0,.slice none 0 0,.slice none 0 0] 27));have Lv:TrX C w R [] [] (.slice none 0 0) (.slice none 0 0) l w1:=by
  rw[Hc];exact⟨⟨_,hR,aL _⟩,Bk.new _ _ _,World.ownsRow_nil _ _ _ _,World.ownsRow_nil _ _ _ _,λ_ h=>by simp at h,λ_ h=>by simp at h,λb h=>by simp[Value.ownBlock]at h,by simpa using FR,h.alloc _,aH.alloc _⟩
 have Gb:=aA Lv;have HK:=aA hk;have HL:=aA hL;have Ge:=aA Hc;clear hR h hk hL FR Lv Hc;go_enter Tryz.func63,Tryz.ntmps63;go_wp2_with fail;rw[show w.alloc (.cells #[.slice none 0 0,.slice none 0 0,.slice none 0 0,.slice none 0 0] 27)=w1 from Ge.symm]
 go_step3
 go_wp2_with fail
 go_step3
 go_wp2_with fail;go_loopw [3,14] (λ_ _ wr=>∃(vs:List Va)(xs:List Arr)(vV vA:Value)(r:List Tk),Hid (TrX C w R vs xs vV vA r wr)) (λ_ _ wr=>lenP C wr);case atStart=>exact⟨[], [],_,_,l,Gb⟩
 case round=>
  obtain⟨vs,xs,vV,vA,r,hx⟩:=hrel;have HM:=aA (za1 C [118,97,114] r 0 wr HK.out hx.pa (by decide));go_wp2_with fail;refine HM.mono ?_;rintro _ w2 ⟨rfl,hp,hf⟩;obtain⟨f,Gs,G6⟩:=hx.eq;have F6:0 < r.length:=List.length_pos_iff.2 hx.pa.ne;obtain⟨f,rfl⟩:∃f',f=f'+1:=⟨f - 1,by omega⟩;unfold zeU at Gs;cases hm:mayB [118,97,114] r;rotate_left
  ·rw[hm]at Gs hp;replace hp:PaAt C w2 r.tail 0:=hp;replace Gs:R=((zaS zaZ [59] false r.tail).then λv r=>zeU f (vs++v) xs r).then zfO:=Gs;have Jz:=aA Gs;have K5:=aA G6;have KU:=aA hp.ne;have Mn:=aA (show r.length=r.tail.length+1 by rw[List.length_tail];omega);have Hu:=aA hf;have hbx:=hx.box.fr hf (λe=>by have e:w.heap.size=C.P:=e;have:=HL.out;omega);have x8:=hbx.cell 0;have Dj:=hbx.frozen 0;simp only[aD]at x8;have MS:=aA (ze7 C zaZ [59] false 131 #[.pointer (some ⟨C.P,0,none⟩)] #[] r.tail 0 w2.drew HK.out (hp.fr (T:=NoT) (Fr.drew aH) id id λ_ _=>id) (λl x r e=>by rw[zb7 e,List.length_tail];omega) (by decide) (enters_of Tryz.func131 (by kernel_rfl) rfl) λW _ l' LU=>by
    simpa using zbs C l' 0 W HK.out LU)
   clear hp hf Gs G6 hm hbx F6;go_wp2_with fail
   go_region_law
    (first
     |(refine zbm _ _ _ (by rfl) ?_
       go_simp;go_at_call 130
       with_reducible refine MS.out.mono ?_
       intro e w7 hE;rcases zii hE with⟨ps,r2,B,q,hX,rfl,hv,hp,hf⟩|⟨c,a2,hX,rfl,hf⟩;case inr=>
        have Lx:TrV C R w (zaf c a2) w7:=by rw[Jz.out,hX];exact zcl (hx.fr.trans (PT.l (Hu.trans ((Fr.drew (Fr.refl C.T w2)).trans hf))))
        exact aG rfl Lx
       have Hs:Fr C.T wr w7:=Hu.trans ((Fr.drew (Fr.refl C.T w2)).trans hf);have Lb:=zgJ KU.out hX;obtain⟨bb,oo,rfl,Hg⟩:=hv.2.2 Lb;have GC:=Hg.cells;have hL:=HL.out;have JO:=hx.box.fr Hs (λe=>by have e:w.heap.size=C.P:=e;omega);have xz:=JO.cell 0;have xM:=JO.frozen 0;simp only[aD]at xz;have Fl:ps.length+r2.length<=r.length:=by
        have h1:=zfg (λl x r e=>by rw[zb7 e,List.length_tail];omega) hX;have h2:=Mn.out;omega
       have HX:=aA hX;have HP:=aA hp;have Fp:=aA Hs;have JB:=aA GC;have FP:=aA (zah hx.rowV Hs (by omega));have MV:=Hs.size;have jK:=hx.fr.size;have Wr:=hx.box.lt;have vD:=hv.1;have jD:=hv.2.1;have vE:=hx.few;have Px:=hx.rowV.lt;clear hX hv hp hf Hs Hg GC JO hL;dsimp only)
     |(refine step_append_lies _ (by rfl) _ _ _ (by rfl) (w.heap.size+1) 77 iV (.agg #[.string ⟨#[]⟩,.int .i64 0]) 2 24 Tryz.underlying22 Ya.1 Ya.2.1 Ya.2.2.1 Ya.2.2.2 rfl (by decide) vV vs.length (vs.flatMap cCVa) (by rfl) FP.out ⟨bb,oo,none⟩ ps.length q (ps.flatMap cCVa) (by rfl) (zkC ps) (λj u hu=>by rw[zij];exact JB.2 j u hu) (zkE ps) Lb (by unfold maxLen;omega) (by omega) (by omega) w7.heap.size rfl ?_
       intro gg cap w9 Ha Hf GN Hk;have R0:=(Hf.cell_far ⟨w.heap.size,0,none⟩ (by show w.heap.size < _;omega) (λe=>by have:=(Px w.heap.size e.symm).1;omega)).trans xz;have NC:=(Hf.frozen_far ⟨w.heap.size,0,none⟩ (by show w.heap.size < _;omega) (λe=>by have:=(Px w.heap.size e.symm).1;omega)).trans xM;have HE:=aA (λw10 Jj=>TrX.stepV (A:=none) (q:=0) (w10:=w10) (f:=f) HL.out hx.out (by rw[Jz.out,HX.out];rfl) (by have:=K5.out;omega) Fl JB.1 HP.out Fp.out Ha Hf GN Jj);clear Ha Hf GN Hk))
   all_goals
    have hbx:=HE _ (by with_reducible rfl);have JV:=aA hbx;have Ws:=aA (show lenP C _ < lenP C wr from by rw[hbx.pa.lenP,hx.pa.lenP];have:=Mn.out;omega);clear hbx HE R0 NC xz xM;go_wp2_with fail;go_roundw;case rel=>exact⟨_,_,_,_,_,JV⟩
    case measure=>exact Ws.out
  ·rw[hm]at Gs hp;replace hp:PaAt C w2 r 0:=hp;have Hl:=aA hf;have jL:=aA (za1 C [97,114,114,97,121] r 0 w2 HK.out hp (by decide));have K5:=aA G6;have T6:=aA Gs;clear hp hf Gs G6 hm;go_wp2_with fail;refine jL.mono ?_;rintro _ w3 ⟨rfl,hp,hf⟩;have Gs:=T6.out;cases hm:mayB [97,114,114,97,121] r;rotate_left
   ·rw[hm]at Gs hp;replace hp:PaAt C w3 r.tail 0:=hp;replace Gs:R=((zaS zen [59] false r.tail).then λx r=>zeU f vs (xs++x) r).then zfO:=Gs;have Jz:=aA Gs;have KU:=aA hp.ne;have Mn:=aA (show r.length=r.tail.length+1 by rw[List.length_tail];omega);have Hu:=aA (Hl.trans hf);obtain⟨w2,Gc⟩:=aF w3;rw[<-Gc]at Hu hp ⊢;clear Gc hf;have hbx:=hx.box.fr Hu.out (λe=>by have e:w.heap.size=C.P:=e;have:=HL.out;omega);have x8:=hbx.cell 1;have Dj:=hbx.frozen 1;simp only[aD]at x8;have MS:=aA (zi3 C zen [59] false 133 #[.pointer (some ⟨C.P,0,none⟩)] #[] r.tail 0 w2.drew HK.out (hp.fr (T:=NoT) (Fr.drew aH) id id λ_ _=>id) zfh (by decide) (enters_of Tryz.func133 (by kernel_rfl) rfl) λW _ l' LU=>by
     simpa using zkt C l' 0 W HK.out LU)
    clear hp Gs hm hbx F6 T6;go_wp2_with fail
    go_region_law
     (first
      |(refine zbm _ _ _ (by rfl) ?_
        go_simp;go_at_call 132
        with_reducible refine MS.out.mono ?_
        intro e w7 hE;rcases zmS hE with⟨ps,r2,B,q,hX,rfl,hv,hp,hf⟩|⟨c,a2,hX,rfl,hf⟩;case inr=>
         have Lx:TrV C R w (zaf c a2) w7:=by rw[Jz.out,hX];exact zcl (hx.fr.trans (PT.l (Hu.trans ((Fr.drew (Fr.refl C.T w2)).trans hf))))
         exact aG rfl Lx
        have Hs:Fr C.T wr w7:=Hu.trans ((Fr.drew (Fr.refl C.T w2)).trans hf);have Lb:=zgJ KU.out hX;obtain⟨bb,oo,rfl,Hg⟩:=hv.2.2 Lb;have GC:=Hg.cells;have hL:=HL.out;have JO:=hx.box.fr Hs (λe=>by have e:w.heap.size=C.P:=e;omega);have xz:=JO.cell 1;have xM:=JO.frozen 1;simp only[aD]at xz;have Fl:ps.length+r2.length<=r.length:=by
         have h1:=zfg zfh hX;have h2:=Mn.out;omega
        have HX:=aA hX;have HP:=aA hp;have Fp:=aA Hs;have JB:=aA GC;have FP:=aA (zah hx.rowA Hs (by omega));have MV:=Hs.size;have jK:=hx.fr.size;have Wr:=hx.box.lt;have vD:=hv.1;have jD:=hv.2.1;have vE:=hx.few;have Px:=hx.rowA.lt;clear hX hv hp hf Hs Hg GC JO hL;dsimp only)
      |(refine step_append_lies _ (by rfl) _ _ _ (by rfl) (w.heap.size+1) 61 iA (.agg #[.string ⟨#[]⟩,.int .i64 0,.int .i64 0]) 3 32 Tryz.underlying23 Vq.1 Vq.2.1 Vq.2.2.1 Vq.2.2.2 rfl (by decide) vA xs.length (xs.flatMap cCAr) (by rfl) FP.out ⟨bb,oo,none⟩ ps.length q (ps.flatMap cCAr) (by rfl) (zkD ps) (λj u hu=>by rw[zij];exact JB.2 j u hu) (zkF ps) Lb (by unfold maxLen;omega) (by omega) (by omega) w7.heap.size rfl ?_
        intro gg cap w9 Ha Hf GN Hk;have R0:=(Hf.cell_far ⟨w.heap.size,1,none⟩ (by show w.heap.size < _;omega) (λe=>by have:=(Px w.heap.size e.symm).1;omega)).trans xz;have NC:=(Hf.frozen_far ⟨w.heap.size,1,none⟩ (by show w.heap.size < _;omega) (λe=>by have:=(Px w.heap.size e.symm).1;omega)).trans xM;have HE:=aA (λw10 Jj=>TrX.stepA (A:=none) (q:=0) (w10:=w10) (f:=f) HL.out hx.out (by rw[Jz.out,HX.out];rfl) (by have:=K5.out;omega) Fl JB.1 HP.out Fp.out Ha Hf GN Jj);clear Ha Hf GN Hk))
    all_goals
     have hbx:=HE _ (by with_reducible rfl);have JV:=aA hbx;have Ws:=aA (show lenP C _ < lenP C wr from by rw[hbx.pa.lenP,hx.pa.lenP];have:=Mn.out;omega);clear hbx HE R0 NC xz xM;go_wp2_with fail;go_roundw;case rel=>exact⟨_,_,_,_,_,JV⟩
     case measure=>exact Ws.out
   ·rw[hm]at Gs hp;replace hp:PaAt C w3 r 0:=hp;replace Gs:R=zfO (vs,xs) r:=Gs;obtain⟨Av,cv,Aa,ca,vF,vG,hy⟩:=TrY.start (TrX.next HL.out hx.out (Hl.trans hf) hp) Gs;have LZ:=aA hy;clear hp hf Gs hm vF vG hy T6 K5 jL Hl HM Gb F6 hx;go_wp2_with fail;try go_step3
    try go_wp2_with fail
    go_loopw [25] (λ_ wr=>∃(vP:Value)(ps:List Prc)(cs:List Value)(r:List Tk),Hid (TrY C w R (vs,xs) Av cv Aa ca vP ps cs r wr)) (λ_ wr=>lenP C wr);case atStart=>exact⟨_,_,_,_,LZ⟩
    case round=>
     clear LZ;obtain⟨vP,ps,cs,r,hy⟩:=hrel;have HM:=aA (za1 C [112,114,111,99] r 0 wr HK.out hy.pa (by decide));go_wp2_with fail;refine HM.mono ?_;rintro _ w2 ⟨rfl,hp,hf⟩;obtain⟨f,Gs,G6⟩:=hy.eq;have F6:0 < r.length:=List.length_pos_iff.2 hy.pa.ne;obtain⟨f,rfl⟩:∃f',f=f'+1:=⟨f - 1,by omega⟩;unfold zdD at Gs;cases hm:mayB [112,114,111,99] r;rotate_left
     ·rw[hm]at Gs hp;replace hp:PaAt C w2 r.tail 0:=hp;replace Gs:R=((zhn r.tail).then λp r=>zdD f (ps++ [p]) r).then (zhq (vs,xs)):=Gs;have Jz:=aA Gs;have K5:=aA G6;have Mn:=aA (show r.length=r.tail.length+1 by rw[List.length_tail];omega);have Hu:=aA hf;have NA:=aA (hp.ended HK.out);have hbx:=hy.box.fr hf (λe=>by have e:w.heap.size=C.P:=e;have:=HL.out;omega);have x8:=hbx.cell 2;have Dj:=hbx.frozen 2;simp only[aD]at x8;have T3:=aA (zmQ C r.tail w2.drew HK.out (hp.fr (T:=NoT) (Fr.drew aH) id id λ_ _=>id));obtain⟨m,KN⟩:=aF ps.length;have MO:=aA KN;have Wt:=aA (show wr.ownsRow (w.heap.size+1) 63 4 vP m cs from by rw[KN];exact hy.row);clear hp hf Gs G6 hm hbx F6 HM KN;go_wp2_with fail
      go_region_law
       (first
        |(refine zbm _ _ _ (by rfl) ?_
          go_simp;go_at_call 134
          with_reducible refine T3.out.mono ?_
          intro e w7 hE;rcases zmT hE with⟨x,r3,A,c,D,q,hX,rfl,hv,hp,hf⟩|⟨c,a2,hX,rfl,hf⟩;case inr=>
           have Lx:TrV C R w (zaf c a2) w7:=by rw[Jz.out,hX];exact zcl (hy.fr.trans (PT.l (Hu.trans ((Fr.drew (Fr.refl C.T w2)).trans hf))))
           exact aG rfl Lx
          have Hs:Fr C.T wr w7:=Hu.trans ((Fr.drew (Fr.refl C.T w2)).trans hf);have hL:=HL.out;have JO:=hy.box.fr Hs (λe=>by have e:w.heap.size=C.P:=e;omega);have xz:=JO.cell 2;have xM:=JO.frozen 2;have Hh:w.heap.size < w7.heap.size:=JO.lt;have f07a:=(JO.alloc (.cells #[.string x.nm,.slice A x.params.length c,.slice D x.body.len q,.int .i64 x.at_] 63)).frozen 2;simp only[aD]at xz;have JA:r3.length < r.length:=by
           have h1:=(procP_loc.shr1 NA.out hX).1;have h2:=Mn.out;omega
          have Fe:=aA JA;have HX:=aA hX;have HV:=aA (⟨hv.1,hv.2.1.imp λ_ _ h=>VaR.more (λb hb=>⟨aK Hu.size hb.1,hb.2⟩) h,hv.2.2.imp λ_ _ h=>StR.more (λb hb=>⟨aK Hu.size hb.1,hb.2⟩) h⟩:in64 x.at_/\SlR (VaR w7 (New wr.heap.size w7) False x.params) x.params.length 24 A c/\SlR (StR w7 (New wr.heap.size w7) False x.body) x.body.len 128 D q);have HP:=aA hp;have Fp:=aA Hs;have S5:=aA ((zah Wt.out Hs (by omega)).alloc (.cells #[.string x.nm,.slice A x.params.length c,.slice D x.body.len q,.int .i64 x.at_] 63));have Kl:=aA (Bk.new w7 63 #[.string x.nm,.slice A x.params.length c,.slice D x.body.len q,.int .i64 x.at_]).news;have HW:=aA (show Fr NoT w7 (w7.alloc (.cells #[.string x.nm,.slice A x.params.length c,.slice D x.body.len q,.int .i64 x.at_] 63))from aH.alloc _);have MV:=Hs.size;have jK:=hy.fr.size;have Wr:=hy.box.lt;have QP:m<=5000:=by have:=hy.few;have:=MO.out;omega
          have Px:=S5.lt;have Hp:∀u∈pcC x A c D q,u.oneCell'=true:=by simp[pcC,Value.oneCell']
          clear hX hv hp hf Hs JO hL JA;dsimp only)
        |(refine step_append_lies _ (by rfl) _ _ _ (by rfl) (w.heap.size+1) 63 iP (.agg #[.string ⟨#[]⟩,.slice none 0 0,.slice none 0 0,.int .i64 0]) 4 72 Tryz.underlying24 Yb.1 Yb.2.1 Yb.2.2.1 Yb.2.2.2 rfl (by decide) vP m cs (by rfl) S5.out ⟨w7.heap.size,0,none⟩ 1 1 (pcC x A c D q) (by rfl) (by rfl) Kl.out Hp (by omega) (by unfold maxLen;omega) (by omega) (by rw[World.size_alloc];omega) (w7.heap.size+1) (World.size_alloc _ _) ?_
          intro gg cap w9 Ha Hf GN Hk;have R0:=(Hf.cell_far ⟨w.heap.size,2,none⟩ (by show w.heap.size < _;rw[World.size_alloc];omega) (λe=>by have:=(Px w.heap.size e.symm).1;omega)).trans ((World.cell?_alloc_lt w7 _ ⟨w.heap.size,2,none⟩ (by show w.heap.size < _;omega)).trans xz);have NC:=(Hf.frozen_far ⟨w.heap.size,2,none⟩ (by show w.heap.size < _;rw[World.size_alloc];omega) (λe=>by have:=(Px w.heap.size e.symm).1;omega)).trans f07a;have HE:=aA (λw10 Jj=>TrY.step (w10:=w10) (f:=f) MO.out HL.out hy.out (by rw[Jz.out,HX.out];rfl) (by have:=K5.out;have:=Fe.out;omega) Fe.out HV.out HP.out Fp.out _ HW.out Ha Hf (GN.imp id λe=>by rw[World.size_alloc];exact e) Jj);clear Ha Hf GN Px))
      all_goals
       have PQ:=HE _ (by with_reducible rfl);have vH:=aA PQ;have Ws:=aA (show lenP C _ < lenP C wr from by rw[PQ.pa.lenP,hy.pa.lenP];exact Fe.out);clear PQ HE R0 NC xz xM;go_wp2_with fail;go_roundw;case rel=>exact⟨_,_,_,_,vH⟩
       case measure=>exact Ws.out
     ·rw[hm]at Gs hp;replace hp:PaAt C w2 r 0:=hp;replace Gs:R=zhq (vs,xs) ps r:=Gs;have L1:=TrY.next HL.out hy.out hf hp;have L2:=aA L1;have Jz:=aA Gs;have HT:=aA (zau C [109,97,105,110] r 0 w2.heap.size _ HK.out (hp.alloc (.cells #[.string ⟨#[109,97,105,110]⟩] 9)) (by decide) (by simp));clear hp hf Gs G6 hm F6 HM L1 hy;go_wp2_with fail;refine HT.mono ?_;intro e w4 hE;rcases hE with⟨ht,rfl,hp,hf⟩|⟨ht,rfl,hf⟩;rotate_left
      ·go_wp2_with fail;have Lx:TrV C R w (zaf 90 (hdT r).at_) w4:=by
        rw[Jz.out];unfold zhq;rw[ht];exact zcl (L2.fr.trans (PT.l (((Fr.refl C.T w2).alloc _).trans hf)))
       exact aG rfl Lx
      have GM:=Jz.out;unfold zhq at GM;rw[ht]at GM;replace GM:R=(zag 24 r.tail).then λb r=>if 1 < r.length then .err 90 (hdT r).at_ else .ok ⟨vs,xs,ps,zai b⟩ r:=GM
      have Fe:=aA GM;have F4:=aA (zih C HK.out 24 r.tail 0 w4 (by omega) hp);have GG:=aA (((Fr.refl C.T w2).alloc (.cells #[.string ⟨#[109,97,105,110]⟩] 9)).trans hf);clear ht hp hf GM HT Jz;go_wp2_with (first|fail "x");refine F4.mono ?_;intro e w7 hE;rcases zgH hE with⟨b,r3,D,q,hX,rfl,hv,hp,hf⟩|⟨c,a2,hX,rfl,hf⟩;case inr=>
       have Lx:TrV C R w (zaf c a2) w7:=by rw[Fe.out,hX];exact zcl (L2.fr.trans (PT.l (GG.trans hf)))
       go_wp2_with fail;exact aG rfl Lx
      have Kf:=Fe.out;rw[hX]at Kf;replace Kf:R=if 1 < r3.length then .err 90 (hdT r3).at_ else .ok ⟨vs,xs,ps,zai b⟩ r3:=Kf
      have Hs:=GG.trans hf;have hL:=HL.out;obtain⟨w10,Gy⟩:=aF (w7.setCell ⟨w.heap.size,3,none⟩ (.slice D (zai b).len q));obtain⟨Ap,cp,Pt,Hr,Jm⟩:=zmR (r:=r3) hL L2.out Hs (hv.imp λ_ _ h=>StR.more (λb hb=>⟨aK GG.size hb.1,hb.2⟩) h) Gy;have JO:=L2.box.fr Hs (λe=>by have e:w.heap.size=C.P:=e;omega);have t7:=JO.cell 3;have f7:=JO.frozen 3;simp only[aD]at t7;have Hj:PaAt C w10 r3 0:=hp.fr (T:=λb=>b=w.heap.size) (by rw[Gy];exact aJ aH) (λe=>by have e:C.P=w.heap.size:=e;omega) (λe=>by have e:C.TB=w.heap.size:=e;omega) (λi hi e=>by have e:i=w.heap.size:=e;omega);have Ld:Fr (PT C w.heap.size) w w10:=by rw[Gy];exact(L2.fr.trans (PT.l Hs)).trans ((Fr.own aH 3 _).mono λi _ h=> .inr h)
      obtain⟨j,cap,m,GW,Jn,hle,F9,G7,F3,p0,p1,g0,g1,_,_,_,ltP,ltT⟩:=hp.cells;have Pw:¬C.P=w.heap.size:=by omega
      have FG:¬w.heap.size=C.P:=by omega
      have JY:m<=9223372036854775807:=by omega
      have G0:=aA (zcg C 90 r3 0 (w7.setCell ⟨w.heap.size,3,none⟩ (.slice D (zai b).len q)) (by rw[<-Gy];exact Hj));have b0:=Hr.cell 0;have b1:=Hr.cell 1;have b2:=Hr.cell 2;have b3:=Hr.cell 3;have JS:=Hr.lt;simp only[aD]at b0 b1 b2 b3;have MW:=aA Jm;have Fa:=aA Ld;have K6:=aA Kf;have T7:=aA Gy;clear Jm Ld Kf hX hv hp hf Hs JO Hj hL Pt Hr hle F3;by_cases h1:1 < r3.length
      ·have Wu:(1:Int) < (m:Int):=by omega
       have e1:decide ((1:Int) < (m:Int))=true:=by simpa using Wu
       have Km:=K6.out;rw[if_pos h1]at Km;have MQ:=aA Km;clear Km MW h1 GW;go_wp2_with fail;refine G0.mono ?_;rintro _ w11 ⟨rfl,hf⟩;have Lx:TrV C R w (zaf 90 (hdT r3).at_) w11:=by
        rw[MQ.out];rw[<-T7.out]at hf;exact zcl (Fa.trans (PT.l hf))
       exact aG rfl Lx
      ·have Wu:¬(1:Int) < (m:Int):=by omega
       have e1:decide ((1:Int) < (m:Int))=false:=by simpa using Wu
       have Km:=K6.out;rw[if_neg h1]at Km;have MQ:=aA Km;clear Km h1 GW;go_wp2_with fail;simp only[Exit.noGoto];refine bodyPost_ret (v:= .agg #[.slice Av vs.length cv,.slice Aa xs.length ca,.slice Ap ps.length cp,.slice D (zai b).len q]) ?_ rfl ?_
       ·rw[<-T7.out];simp[results,Tryz.results63,go_sem,b0,b1,b2,b3,JS]
       ·rw[<-T7.out,MQ.out];exact MW.out
