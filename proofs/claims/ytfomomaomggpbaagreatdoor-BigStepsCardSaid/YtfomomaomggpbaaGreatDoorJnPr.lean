/- parse: block. -/
import Derived.Test.YtfomomaomggpbaaGreatDoorJnSt
set_option linter.all false
set_option maxHeartbeats 1600000
set_option maxRecDepth 100000
namespace Go.Proofs.YtfomomaomggpbaaGreatDoor
open Go.RowKit Go.Shelf
theorem zkp {n:Nat}{l:List Tk}(hm:mayB [123] l=false):zag n l= .err 90 (hdT l).at_ :=by cases n<;>(unfold zag;rw[hm];rfl)
theorem zl7 {l:List Tk}(hm:mayB [123] l=true):zag 0 l= .err 91 (hdT l).at_ :=by unfold zag;rw[hm];rfl
theorem zl8 {n:Nat}{l:List Tk}(hm:mayB [123] l=true):zag (n+1) l=zbh (zaz (zag n) n) l.tail.length [] l.tail:=by unfold zag;rw[hm];rfl
theorem zgp (C:Pcx)(n:Nat)(hs:∀m,n=m+1->BlkC C m)(l:List Tk)(d:Nat)(w:World)(Gd:d+n=24)(hk:C.Ok)(h:PaAt C w l d):
  Calls Tryz.prog 136 #[.pointer (some ⟨C.P,0,none⟩)] w (EndV C d StlV (zag n l) w):=by
 have Jt:= @makeF Tryz.prog;have hL:=h.lts;obtain⟨w1,Hc⟩:=nmq ((w.alloc (.cells #[.pointer (some ⟨C.P,0,none⟩)] 162)).alloc (.cells #[.slice none 0 0] 25));have Hg:Fr NoT w w1:=by rw[Hc];exact((Fr.refl _ _).alloc _).alloc _
 have Hy:w1.heap.size=w.heap.size+2:=by rw[Hc];simp
 have Gx:Bk w1 w.heap.size 162 #[.pointer (some ⟨C.P,0,none⟩)]:=by rw[Hc];exact(Bk.new _ _ _).alloc _
 have hbx:Bk w1 (w.heap.size+1) 25 #[.slice none 0 0]:=by rw[Hc];exact Bk.new_at _ _ _ (by simp)
 have h1:=h.fr Hg id id λ_ _=>id;have Gg:=hdq Hc;have hent:=enters_of Tryz.func205 (by kernel_rfl) rfl;cases hm:mayB [123] l
 ·have hw:=zfW C [123] (.func (.func 205) #[] #[.pointer (some ⟨w.heap.size,0,none⟩),.pointer (some ⟨w.heap.size+1,0,none⟩)]) l d w1 h1 hm;rw[zkp hm];rw[Hc]at hw;unfold ErrP zae pP at hw;have HW:=hdq hw;have Hs:=hdq Hg;clear hw Hc Hg Hy Gx hbx h1 h hs hk hent hm;go_enter Tryz.func136,Tryz.ntmps136;go_wp2_with fail;refine HW.mono ?_;rintro _ w2 ⟨rfl,hf⟩;go_wp2_with fail;rw[<-Gg.out]at hf;exact⟨rfl,rfl,Hs.any.trans hf⟩
 ·match n,hs,Gd with
  |0,hs,Gd=>
   obtain rfl:d=24:=by omega
   have hw:=za7 C [123] (.func (.func 205) #[] #[.pointer (some ⟨w.heap.size,0,none⟩),.pointer (some ⟨w.heap.size+1,0,none⟩)]) l w1 h1 hm;rw[zl7 hm];rw[Hc]at hw;unfold ErrP zae pP at hw;have HW:=hdq hw;have Hs:=hdq Hg;clear hw Hc Hg Hy Gx hbx h1 h hs hk hent hm;go_enter Tryz.func136,Tryz.ntmps136;go_wp2_with fail;refine HW.mono ?_;rintro _ w2 ⟨rfl,hf⟩;go_wp2_with fail;rw[<-Gg.out]at hf;exact⟨rfl,rfl,Hs.any.trans hf⟩
  |n+1,hs,Gd=>
   have KS:=hs n rfl;rw[zl8 hm];obtain⟨R,hR⟩:=nmq (zbh (zaz (zag n) n) l.tail.length [] l.tail);have FD:∀W,PaAt C W l.tail (d+1)->Fr C.T w1 W->Calls Tryz.prog 205 #[.pointer (some ⟨w.heap.size,0,none⟩),.pointer (some ⟨w.heap.size+1,0,none⟩)] W (BlbP C (w.heap.size+1) (d+1) R W):=λW hP hF=>by
    rw[hR];exact ziJ C n KS l.tail (d+1) w.heap.size (w.heap.size+1) W (by omega) hk hP (Gx.fr hF (λe=>by have e:w.heap.size=C.P:=e;omega)) (by omega) (by omega) (hbx.fr hF (λe=>by have e:w.heap.size+1=C.P:=e;omega)) (by omega) (by omega) (by omega)
   rw[<-hR];clear hR;cases hr:R with
   |err c a=>
    rw[hr]at FD;have hw:=zbm C [123] 205 #[.pointer (some ⟨w.heap.size,0,none⟩),.pointer (some ⟨w.heap.size+1,0,none⟩)] l d w1 c a (λw2=>Fr (PT C (w.heap.size+1)) w1 w2) hk h1 (by decide) hm (by omega) hent (λW hP hF=>(FD W hP hF).mono λe w2 hE=>⟨hE.1,(PT.l hF).trans hE.2⟩);rw[Hc]at hw;unfold zae pP at hw;have HW:=hdq hw;have Hs:=hdq Hg;clear hw Hc Hg Hy Gx hbx h1 h hs hk hent hm FD KS;go_enter Tryz.func136,Tryz.ntmps136;go_wp2_with fail;refine HW.mono ?_;rintro _ w2 ⟨rfl,hf⟩;go_wp2_with fail;rw[<-Gg.out]at hf;refine⟨rfl,rfl,(Hs.any.trans hf).mono λi hi e=>?_⟩;rcases e with e|e
    ·exact e
    ·omega
   |ok xs r=>
    rw[hr]at FD;have hw:=zbz C [123] 205 #[.pointer (some ⟨w.heap.size,0,none⟩),.pointer (some ⟨w.heap.size+1,0,none⟩)] l d w1 (λw2=>(∃v,Bk w2 (w.heap.size+1) 25 #[v]/\StlV w2 (w.heap.size+2) v xs)/\PaAt C w2 r (d+1)/\Fr (PT C (w.heap.size+1)) w1 w2) hk h1 (by decide) hm (by omega) hent (λw2 h2=>⟨r,h2.2.1⟩)
     (λW hP hF=>(FD W hP hF).mono λe w2 hE=>⟨hE.1,by
      obtain⟨v,hv,hs⟩:=hE.2.1;refine⟨v,hv,?_⟩;obtain⟨A,c,e,hs⟩:=hs;exact⟨A,c,e,hs.imp λ_ _ hx=>StR.more (λb hb=>⟨by have:=hF.size;have:=hb.1;omega,hb.2⟩) hx⟩,hE.2.2.1,(PT.l hF).trans hE.2.2.2⟩)
    rw[Hc]at hw;unfold zbX pP at hw;have HW:=hdq hw;have Hs:=hdq Hg;have HK:=hdq hk;have HL:=hdq hL;clear hw Hc Hg Hy Gx hbx h1 h hs hk hent hm FD KS hL;go_enter Tryz.func136,Tryz.ntmps136;go_wp2_with fail;refine HW.mono ?_;rintro _ w2 ⟨rfl,w3,⟨⟨v,hv,Xf⟩,hp,hf⟩,rfl⟩;have Kl:Fr C.T w3 (w3.setCell ⟨C.P,1,none⟩ (.int .i64 d)):=(Fr.refl C.T w3).setCell (p:=⟨C.P,1,none⟩) (Or.inl C.Tp) _;have Kt:=hv.fr Kl (λe=>by have e:w.heap.size+1=C.P:=e;have:=HL.out;omega);have q0:=Kt.cell 0;simp only[List.getElem?_toArray,List.getElem?_cons_zero]at q0;rw[<-Gg.out]at hf;have qc:=hdq (Xf.fr Kl (λb h1 h2 e=>by have e:b=C.P:=e;have:=HL.1;omega));have HP:=hdq (hp.deep HK.out (d':=d) (v:=(d:Int)) rfl);have HF:=hdq (((Hs.any.trans hf).trans (PT.l Kl)).mono (T':=C.T) λi hi e=>by
     rcases e with e|e
     ·exact e
     ·omega)
    clear hv Xf hp hf Kl Kt;go_wp2_with fail;refine bodyPost_ret (v:=v) (by simp[results,Tryz.results136,go_sem,q0]) rfl ⟨v,rfl,?_,HP.out,HF.out⟩;obtain⟨A,c,e,hs⟩:=qc.out;exact⟨A,c,e,hs.imp λ_ _ hx=>StR.more (λb hb=>⟨by have:=hb.1;omega,hb.2⟩) hx⟩
theorem zhH (C:Pcx)(hk:C.Ok):∀n,BlkC C n:=by
 intro n
 induction n with
 |zero=>exact λl d w Gd h=>zgp C 0 (λm e=>by omega) l d w Gd hk h
 |succ n ih=>exact λl d w Gd h=>zgp C (n+1) (λm e=>by obtain rfl:m=n:=(by omega);exact ih) l d w Gd hk h
def prV (x:Prc)(A:Option Addr)(c:Nat)(D:Option Addr)(e:Nat):Value:= .agg #[.string x.nm,.slice A x.params.length c,.slice D x.body.len e,.int .i64 x.at_]
def PcV (w:World)(L:Nat)(v:Value)(x:Prc):Prop:=
 ∃A c D e,v=prV x A c D e/\in64 x.at_/\SlR (VaR w (New L w) False x.params) x.params.length 24 A c/\SlR (StR w (New L w) False x.body) x.body.len 128 D e
theorem zhI {C:Pcx}{d:Nat}{r:PR (List Va)}{W w':World}{e:Ending}(h:EndV C d znH r W e w'):
  (∃(xs:List Va)(l:List Tk)(A:Option Addr)(c:Nat),r= .ok xs l/\e= .returned (.slice A xs.length c)/\SlR (VaR w' (New W.heap.size w') False xs) xs.length 24 A c/\PaAt C w' l d/\Fr C.T W w')\/
   ∃c a,r= .err c a/\e= .panicked [{v:= .iface 161 (.agg #[.int .i64 c,.int .i64 a]),recovered:=false}]/\Fr C.T W w':=by
 unfold EndV at h;cases r with
 |err c a=>exact .inr ⟨c,a,rfl,h⟩
 |ok x l=>
  obtain⟨v,rfl,⟨A,c,rfl,hs⟩,hp,hf⟩:=h;exact .inl ⟨x,l,A,c,rfl,rfl,hs,hp,hf⟩
theorem zgq {C:Pcx}{d:Nat}{r:PR (List St)}{W w':World}{e:Ending}(h:EndV C d StlV r W e w'):
  (∃(xs:List St)(l:List Tk)(A:Option Addr)(c:Nat),r= .ok xs l/\e= .returned (.slice A (zam xs).len c)/\SlR (StR w' (New W.heap.size w') False (zam xs)) (zam xs).len 128 A c/\PaAt C w' l d/\Fr C.T W w')\/
   ∃c a,r= .err c a/\e= .panicked [{v:= .iface 161 (.agg #[.int .i64 c,.int .i64 a]),recovered:=false}]/\Fr C.T W w':=by
 unfold EndV at h;cases r with
 |err c a=>exact .inr ⟨c,a,rfl,h⟩
 |ok x l=>
  obtain⟨v,rfl,⟨A,c,rfl,hs⟩,hp,hf⟩:=h;exact .inl ⟨x,l,A,c,rfl,rfl,hs,hp,hf⟩
theorem zl9 {C:Pcx}{w w4 w5 w7 w9:World}{x:Va}{ps:List Va}{xs:List St}{B D:Option Addr}{q m:Nat}{r3:List Tk}(hL:C.P < w.heap.size/\C.TB < w.heap.size/\C.W0.heap.size<=w.heap.size)
  (Hj:Fr C.T w w5) (hf:Fr C.T w5 w7) (h4:w.heap.size+1<=w4.heap.size) (Fh:zeh x) (F4:SlR (VaR w5 (New w4.drew.heap.size w5) False ps) ps.length 24 B q) (hv:SlR (StR w7 (New w5.heap.size w7) False (zam xs)) (zam xs).len 128 D m) (hp:PaAt C w7 r3 0)
  (h9:w9=(((w7.setCell ⟨w.heap.size,0,none⟩ (.string x.nm)).setCell ⟨w.heap.size,1,none⟩ (.slice B ps.length q)).setCell ⟨w.heap.size,2,none⟩ (.slice D (zam xs).len m)).setCell ⟨w.heap.size,3,none⟩ (.int .i64 x.at_)) (vR:w4.drew.heap.size<=w5.heap.size):
  EndV C 0 PcV (.ok ⟨x.nm,ps,zam xs,x.at_⟩ r3) w (.returned (prV ⟨x.nm,ps,zam xs,x.at_⟩ B q D m)) w9:=by
 have GU:Fr (λb=>b=w.heap.size) w7 w9:=by rw[h9];exact Fr.own (Fr.own (Fr.own (Fr.own (Fr.refl _ _) _ _) _ _) _ _) _ _
 have Ht:=Hj.size;have NF:=hf.size;have Po:=GU.size;have vS:w.heap.size+1<=w4.drew.heap.size:=h4;have Jj:Fr (λb=>b=C.P\/b=w.heap.size) w5 w9:=(hf.mono λi _ h=> .inl h).trans (GU.mono λi _ h=> .inr h);refine⟨_,rfl,⟨B,q,D,m,rfl,Fh,F4.imp λ_ _ h=>VaR.more (λb hb=>⟨by have:=hb.1;omega,by have:=hb.2;omega⟩) (VaR.keep (Jj.same λb hb=>⟨hb.2,λe=>?_⟩) h),hv.imp λ_ _ h=>StR.more (λb hb=>⟨by have:=hb.1;omega,by have:=hb.2;omega⟩) (StR.keep (GU.same λb hb=>⟨hb.2,λe=>?_⟩) h)⟩,hp.fr GU (λe=>?_) (λe=>?_) (λi hi e=>?_),?_⟩
 ·have:=hb.1;rcases e with e|e<;>omega
 ·have e:b=w.heap.size:=e;have:=hb.1;omega
 ·have e:C.P=w.heap.size:=e;omega
 ·have e:C.TB=w.heap.size:=e;omega
 ·have e:i=w.heap.size:=e;omega
 ·refine(((Hj.trans hf).mono (T':=λb=>b=C.P\/w.heap.size<=b) λi _ h=> .inl h).trans (GU.mono λi _ h=>?_)).mono λi hi e=>?_
  ·have h:i=w.heap.size:=h;exact .inr (by omega)
  ·rcases e with e|e
   ·exact e
   ·omega
theorem zma (C:Pcx)(l:List Tk)(w:World)(hk:C.Ok)(h:PaAt C w l 0):
  Calls Tryz.prog 134 #[.pointer (some ⟨C.P,0,none⟩)] w (EndV C 0 PcV (zgZ l) w):=by
 have Jt:= @makeF Tryz.prog;obtain⟨R,hR⟩:=nmq (zgZ l);rw[<-hR];have HR:=hdq hR;have HK:=hdq hk;have HL:=hdq h.lts;have h1:=h.alloc (.cells #[.string ⟨#[]⟩,.slice none 0 0,.slice none 0 0,.int .i64 0] 63);have HN:=hdq (zbs C l 0 _ hk h1);have Mi:=hdq (Bk.new w 63 #[.string ⟨#[]⟩,.slice none 0 0,.slice none 0 0,.int .i64 0]);have HA:=hdq (show Fr C.T w (w.alloc (.cells #[.string ⟨#[]⟩,.slice none 0 0,.slice none 0 0,.int .i64 0] 63))from(Fr.refl _ _).alloc _);clear hR h h1 hk;go_enter Tryz.func134,Tryz.ntmps134;go_wp2_with fail;refine HN.mono ?_;intro e w2 hE;rcases hE.ways with⟨x,r,hx,rfl,Fh,hp,hf⟩|⟨c,a,hx,rfl,hf⟩;rotate_left
 ·go_wp2_with fail;exact⟨rfl,by rw[HR.out,zgZ,hx];exact⟨rfl,HA.trans hf⟩⟩
 have GA:=HR.out;rw[zgZ,hx]at GA;replace GA:R=(zal [40] r).then λ_ r=>(zaR zaX [41] true r).then λps r=>(zag 24 r).then λb r=> .ok ⟨x.nm,ps,zam b,x.at_⟩ r:=GA;have GB:=hdq GA;have M1:=hdq Fh;have hL:=HL.out;have GR:w.heap.size+1<=w2.heap.size:=by have:=hf.size;simpa using this
 have JG:=(hp.alloc (.cells #[.string x.nm,.int .i64 x.at_] 77)).alloc (.cells #[.string ⟨#[40]⟩] 9);have HT:=hdq (zas C [40] r 0 (w2.heap.size+1) _ HK.out JG (by decide) (by simp));have Hv:=hdq (((HA.trans hf).alloc (.cells #[.string x.nm,.int .i64 x.at_] 77)).alloc (.cells #[.string ⟨#[40]⟩] 9));have Vo:=hdq ((Bk.new w2 77 #[.string x.nm,.int .i64 x.at_]).alloc (.cells #[.string ⟨#[40]⟩] 9));have Lv:=hdq (((Mi.fr hf (λe=>by have e:w.heap.size=C.P:=e;omega)).alloc (.cells #[.string x.nm,.int .i64 x.at_] 77)).alloc (.cells #[.string ⟨#[40]⟩] 9));clear hx Fh hp hf GA JG;go_wp2_with fail;refine HT.mono ?_;intro e w4 hE;rcases hE with⟨ht,rfl,hp,hf⟩|⟨ht,rfl,hf⟩;rotate_left
 ·go_wp2_with fail;exact⟨rfl,by rw[GB.out,ht];exact⟨rfl,Hv.trans hf⟩⟩
 have GE:=GB.out;rw[ht]at GE;replace GE:R=(zaR zaX [41] true r.tail).then λps r=>(zag 24 r).then λb r=> .ok ⟨x.nm,ps,zam b,x.at_⟩ r:=GE;have G8:=hdq GE;have Nt:=Vo.fr hf (λe=>by have e:w2.heap.size=C.P:=e;omega);have Gn:=Lv.fr hf (λe=>by have e:w.heap.size=C.P:=e;omega);have v0:=Nt.cell 0;have v1:=Nt.cell 1;simp only[getsL]at v0 v1;have Jl:=Nt.lt;have Pd:¬w2.heap.size=C.P:=by omega
 have ME:=hdq (zeT C zaX [41] true 131 #[.pointer (some ⟨C.P,0,none⟩)] #[] r.tail 0 w4.drew HK.out (hp.fr (T:=NoT) (Fr.drew (Fr.refl _ _)) id id λ_ _=>id) (λl x r e=>by rw[zb6 e,List.length_tail];omega) (by decide) (enters_of Tryz.func131 (by kernel_rfl) rfl) λW _ l' Lx=>by
  simpa using zbs C l' 0 W HK.out Lx)
 have YU:=hdq Gn;have GN:=hdq (Hv.trans hf);clear ht hp hf GE Nt Gn hL;go_wp2_with fail
 go_region_held2 (λW'=>W'.cell? ⟨w2.heap.size,0,none⟩=some (.string x.nm)/\W'.cell? ⟨w2.heap.size,1,none⟩=some (.int .i64 x.at_))
  (first
   |(refine⟨?_,?_⟩<;>with_reducible assumption)
   |(refine⟨(Fr.cell (T:=λb=>b=w.heap.size) (w:=w7) ?_ NE VM).trans xd,(Fr.cell (T:=λb=>b=w.heap.size) (w:=w7) ?_ NE VM).trans xe⟩
     all_goals(repeat(first|exact Fr.refl _ _|refine Fr.own ?_ _ _)))
   |(refine⟨(Fr.cell (T:=NoT) (w:=w4) ?_ Jl id).trans v0,(Fr.cell (T:=NoT) (w:=w4) ?_ Jl id).trans v1⟩
     all_goals(repeat(first|exact Fr.refl _ _|refine Fr.drew ?_))))
  (first
   |(go_at_call 130
     with_reducible refine ME.out.mono ?_
     intro e w5 hE;rcases zhI hE with⟨ps,r2,B,q,hX,rfl,hv,hp,hf⟩|⟨c,a2,hX,rfl,hf⟩;case inr=>exact⟨rfl,by rw[G8.out,hX];exact⟨rfl,GN.trans ((Fr.drew (Fr.refl C.T w4)).trans hf)⟩⟩
     have Hj:Fr C.T w4 w5:=(Fr.drew (Fr.refl C.T w4)).trans hf;have xf:=(Hj.cell (p:=⟨w2.heap.size,0,none⟩) Jl Pd).trans v0;have xg:=(Hj.cell (p:=⟨w2.heap.size,1,none⟩) Jl Pd).trans v1;have TD:=ltq Jl Hj.size;have HX:=hdq hX;have TE:=hdq hv;have Gl:=hdq Hj;have J2:=hdq (zhH C HK.out 24 r2 0 w5 (by omega) hp);clear hX hv hp hf Hj)
   |(go_at_call 136
     with_reducible refine J2.out.mono ?_
     intro e w7 hE;rcases zgq hE with⟨xs,r3,D,m,hY,rfl,hv,hp,hf⟩|⟨c,a2,hY,rfl,hf⟩;case inr=>exact⟨rfl,by rw[G8.out,HX.out];show EndV C 0 PcV ((zag 24 r2).then _) w _ _;rw[hY];exact⟨rfl,(GN.trans Gl.out).trans hf⟩⟩
     have xd:=(hf.cell (p:=⟨w2.heap.size,0,none⟩) TD Pd).trans xf;have xe:=(hf.cell (p:=⟨w2.heap.size,1,none⟩) TD Pd).trans xg;have NE:=ltq TD hf.size;have VM:¬w2.heap.size=w.heap.size:=by omega
     have Hf:=(YU.fr Gl.out (λe=>by have e:w.heap.size=C.P:=e;have:=HL.out;omega)).fr hf (λe=>by have e:w.heap.size=C.P:=e;have:=HL.out;omega);have q0:=Hf.cell 0;have q1:=Hf.cell 1;have q2:=Hf.cell 2;have q3:=Hf.cell 3;have g0:=Hf.frozen 0;have g1:=Hf.frozen 1;have g2:=Hf.frozen 2;have g3:=Hf.frozen 3;have Jd:=Hf.lt;simp only[getsL]at q0 q1 q2 q3;have HY:=hdq hY;have HE:=hdq (λw9 h9=>zl9 (w9:=w9) HL.out (GN.trans Gl.out) hf (by have:=GN.size;omega) M1.out TE.out hv hp h9 Gl.size);clear hY hv hp hf Hf))
 all_goals
  go_wp2_with fail;refine bodyPost_ret (v:=prV ⟨x.nm,ps,zam xs,x.at_⟩ B q D m) (by simp[results,Tryz.results134,go_sem,prV,q0,q1,q2,q3,Jd]) rfl ?_;have J6:=G8.out;rw[HX.out]at J6;replace J6:R=(zag 24 r2).then λb r=> .ok ⟨x.nm,ps,zam b,x.at_⟩ r:=J6;rw[J6,HY.out];exact HE _ rfl
