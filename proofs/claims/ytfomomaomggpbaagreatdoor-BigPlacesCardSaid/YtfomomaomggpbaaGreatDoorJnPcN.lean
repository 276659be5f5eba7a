/- parse. -/
import Derived.Test.YtfomomaomggpbaaGreatDoorJgPc
set_option linter.all false
set_option maxHeartbeats 3200000
set_option maxRecDepth 100000
namespace Go.Proofs.YtfomomaomggpbaaGreatDoor
open Go.RowKit Go.Shelf
theorem zed (x:ByteArray):∀(zs:List ByteArray)(i:Nat),0<=Lib.idxFromS zs x i->∃j:Nat,Lib.idxFromS zs x i=((i+j:Nat):Int)/\zs[j]?=some x
 | [],i,h=>by simp[Lib.idxFromS]at h
 |z::zs,i,h=>by
  unfold Lib.idxFromS at h ⊢;split
  ·rename_i hz;exact⟨0,rfl,by simp[hz]⟩
  ·rename_i hz;rw[if_neg hz]at h;obtain⟨j,h1,h2⟩:=zed x zs (i+1) h;exact⟨j+1,by rw[h1];congr 1;omega,by simpa using h2⟩
theorem zcw {signs:List (List UInt8)}{l:List Tk}{j:Nat}(h:isP signs l=(j:Int)):signs[j]?=some (hdT l).text /\(hdT l).kind ≠2:=by
 have h0:0<=isP signs l:=by omega
 have h2:=zcK h0;refine⟨?_,h2.2⟩;unfold isP at h;rw[if_neg h2.2]at h;obtain⟨i,h3,h4⟩:=zed (txt (hdT l)) (signs.map λs=>(⟨s.toArray⟩:ByteArray)) 0 (by show 0<=Lib.idxOfS _ _;omega);have h5:i=j:=by
  have h3:Lib.idxOfS _ _=((0+i:Nat):Int):=h3;omega
 subst h5;rw[List.getElem?_map]at h4;cases hs:signs[i]? with
 |none=>rw[hs]at h4;cases h4
 |some s=>
  rw[hs]at h4;have:=znQ (Option.some.inj h4);rw[this]
theorem zkh {s:List UInt8}{l:List Tk}(h:(hdT l).text =s)(hk:(hdT l).kind ≠2):mayB s l=true:=by
 unfold mayB isP;rw[if_neg hk];simp[Lib.idxOfS,Lib.idxFromS,txt,h]
theorem zdc (C:Pcx)(signs:List (List UInt8))(l:List Tk)(d:Nat)(w:World)(h:PaAt C (w.alloc (.cells (strA signs) 9)) l d)(n:Nat)(hn:n=signs.length)(Gq:signs.length<=100):
  Calls Tryz.prog 200 #[.pointer (some ⟨C.P,0,none⟩),.slice (some ⟨w.heap.size,0,none⟩) n n] (w.alloc (.cells (strA signs) 9)) λe w'=>e= .returned (.int .i64 (isP signs l))/\w.alloc (.cells (strA signs) 9)=w':=by
 subst hn;exact zh0 C signs l d w.heap.size 0 _ _ h (by omega) λj hj=>by
  rw[Nat.zero_add,(Bk.new w _ _).cell j];simp[strA,hj]
theorem zoG {l:List Tk}(h:isP notS l=0):notP 0 l= .err 91 (hdT l).at_ :=by unfold notP;rw[if_pos h]
theorem zki {n:Nat}{l:List Tk}{a:Int}(h:isP notS l=0)(ha:a=((hdT l).at_ :Int)):notP (n+1) l=notB n a l.tail:=by rw[ha];unfold notP;rw[if_pos h];rfl
theorem zoH {l:List Tk}(h:isP notS l=1):notP 0 l= .err 91 (hdT l).at_ :=by unfold notP;rw[if_neg (by omega),if_pos h]
theorem zoI {n:Nat}{l:List Tk}(h:isP notS l=1):notP (n+1) l=endC [93] n l.tail:=by unfold notP;rw[if_neg (by omega),if_pos h];rfl
theorem zpK {n:Nat}{l:List Tk}(h:isP notS l=2):notP n l= .ok ⟨1,.nil,.nil,(hdT l).at_⟩ l.tail:=by
 cases n<;>(unfold notP;rw[if_neg (by omega),if_neg (by omega),if_pos (Or.inl h),h];rfl)
theorem zpL {n:Nat}{l:List Tk}(h:isP notS l=3):notP n l= .ok ⟨2,.nil,.nil,(hdT l).at_⟩ l.tail:=by
 cases n<;>(unfold notP;rw[if_neg (by omega),if_neg (by omega),if_pos (Or.inr h),h];rfl)
theorem zpM {n:Nat}{l:List Tk}(h:isP notS l < 0):notP n l=cmpP n l:=by
 cases n<;>(unfold notP;rw[if_neg (by omega),if_neg (by omega),if_neg (by omega)])
theorem zb6 (C:Pcx)(a:Int)(w w1:World)(hw:w1=((w.alloc (.cells #[.pointer (some ⟨C.P,0,none⟩)] 162)).alloc (.cells #[.int .u8 0,.slice none 0 0,.slice none 0 0,.int .i64 0] 179)).alloc (.cells #[.int .i64 a] 3)):
  Fr NoT w w1/\w1.heap.size=w.heap.size+3/\Bk w1 w.heap.size 162 #[.pointer (some ⟨C.P,0,none⟩)]/\Bk w1 (w.heap.size+1) 179 #[.int .u8 0,.slice none 0 0,.slice none 0 0,.int .i64 0]/\Bk w1 (w.heap.size+2) 3 #[.int .i64 a]:=by
 subst hw;exact⟨((aH.alloc _).alloc _).alloc _,by simp,((Bk.new _ _ _).alloc _).alloc _,(Bk.new_at _ _ _ (by simp)).alloc _,Bk.new_at _ _ _ (by simp)⟩
theorem zdC {C:Pcx}{w w1 w2:World}{rb d L:Nat}{x:Cn}{r:List Tk}(hk:C.Ok)(hL:C.P < w.heap.size/\C.TB < w.heap.size/\C.W0.heap.size<=w.heap.size)(h1:Fr NoT w w1)(Gr:w.heap.size<=rb)(YX:w.heap.size<=L)
  (My:ResC rb L w2 x) (GP:PaAt C w2 r (d+1)) (hf:Fr (PT C rb) w1 w2):
  ResC rb w.heap.size (w2.setCell ⟨C.P,1,none⟩ (.int .i64 d)) x/\PaAt C (w2.setCell ⟨C.P,1,none⟩ (.int .i64 d)) r d/\Fr C.T w (w2.setCell ⟨C.P,1,none⟩ (.int .i64 d)):=by
 have Kb:Fr C.T w2 (w2.setCell ⟨C.P,1,none⟩ (.int .i64 d)):=(Fr.refl C.T w2).setCell (p:=⟨C.P,1,none⟩) (Or.inl C.Tp) _;refine⟨(My.fr Kb (by omega) (by omega)).low YX,GP.deep hk (d':=d) (v:=(d:Int)) rfl,((h1.any.trans hf).trans (PT.l Kb)).mono λi hi e=>?_⟩;rcases e with e|e
 ·exact e
 ·omega
-- a bang
theorem zmE (C:Pcx)(n:Nat)(hs:∀m,n=m+1->NotC C m)(l:List Tk)(d:Nat)(w:World)(Ga:d+n=24)(hk:C.Ok)(h:PaAt C w l d)(GI:isP notS l=0):
  Calls Tryz.prog 315 #[.pointer (some ⟨C.P,0,none⟩)] w (CdP C d (notP n l) w):=by
 have JI:= @makeF Tryz.prog;have hL:=h.lts;have Hg:=zbf hk h;obtain⟨j,cap,m,GW,Jn,hl,F9,G7,hb,p0,p1,f0,f1,t0,t1,t2,ltP,ltT⟩:=h.cells;have JY:m<=9223372036854775807:=by omega
 have JU:(0:Int) < (m:Int):=by omega
 obtain⟨a,ha⟩:∃a:Int,a=(hdT l).at_ :=⟨_,rfl⟩;rw[<-ha]at t2 Hg;have HA:=aA ha;obtain⟨w1,Hc⟩:=aF (((w.alloc (.cells #[.pointer (some ⟨C.P,0,none⟩)] 162)).alloc (.cells #[.int .u8 0,.slice none 0 0,.slice none 0 0,.int .i64 0] 179)).alloc (.cells #[.int .i64 a] 3));obtain⟨Hd,Hw,GD,hbx,Kd⟩:=zb6 C a w w1 Hc;have h1:=h.fr Hd id id λ_ _=>id;have Hl:=aA Hd;have Ge:=aA Hc;have HK:=aA hk;have HL:=aA hL;have hent:=enters_of Tryz.func316 (by kernel_rfl) rfl;have h2:=h1.alloc (.cells #[.string ⟨#[33]⟩,.string ⟨#[91]⟩,.string ⟨#[116,114,117,101]⟩,.string ⟨#[102,97,108,115,101]⟩] 9);have Fi:=zdc C notS l d w1 h2 4 rfl (by decide);have hm:mayB [33] l=true:=zkh (Option.some.inj (zcw (j:=0) GI).1).symm (zcw (j:=0) GI).2;rw[GI]at Fi;unfold strA notS at Fi;simp only[List.map_cons,List.map_nil]at Fi;have He:Fr NoT w1 (w1.alloc (.cells #[.string ⟨#[33]⟩,.string ⟨#[91]⟩,.string ⟨#[116,114,117,101]⟩,.string ⟨#[102,97,108,115,101]⟩] 9)):=(Fr.refl NoT w1).alloc _;rw[Hw]at Fi;rw[Hc]at Fi;have LW:=aA Fi
 match n,hs,Ga with
 |0,hs,Ga=>
  obtain rfl:d=24:=by omega
  have hw:=za9 C [33] (.func (.func 316) #[] #[.pointer (some ⟨w.heap.size,0,none⟩),.pointer (some ⟨w.heap.size+1+1,0,none⟩),.pointer (some ⟨w.heap.size+1,0,none⟩)]) l _ h2 hm;rw[zoG GI];rw[Hc]at hw;unfold ErrP zaf pP at hw;have HW:=aA hw;have Hu:=aA He;clear hw Hc Hd Hw GD hbx Kd h1 h2 h hs hk hent hm GI hb hl GW ha He Hg hL Fi;go_enter Tryz.func315,Tryz.ntmps315;go_wp2_with fail;refine LW.mono ?_;rintro _ wy ⟨rfl,rfl⟩;go_wp2_with fail;refine HW.mono ?_;rintro _ w3 ⟨rfl,hf⟩;go_wp2_with fail;have He:=Hu.out;rw[Ge.out]at He;exact⟨rfl,rfl,((by rw[<-Ge.out];exact Hl.any:Fr C.T w _).trans He.any).trans hf⟩
 |n+1,hs,Ga=>
  have Lg:=hs n rfl;have FT:∀W,PaAt C W l.tail (d+1)->Fr C.T (w1.alloc (.cells #[.string ⟨#[33]⟩,.string ⟨#[91]⟩,.string ⟨#[116,114,117,101]⟩,.string ⟨#[102,97,108,115,101]⟩] 9)) W->Calls Tryz.prog 316 #[.pointer (some ⟨w.heap.size,0,none⟩),.pointer (some ⟨w.heap.size+2,0,none⟩),.pointer (some ⟨w.heap.size+1,0,none⟩)] W (ParC C (w.heap.size+1) (d+1) (notB n a l.tail) W):=λW hP hF=>
   zmD C n Lg l.tail (d+1) w.heap.size (w.heap.size+2) (w.heap.size+1) a W Hg (by omega) hk hP ((GD.fr0 He).fr hF (λe=>by have e:w.heap.size=C.P:=e;omega)) (by omega) ((Kd.fr0 He).fr hF (λe=>by have e:w.heap.size+2=C.P:=e;omega)) (by omega) (by omega) ((hbx.fr0 He).fr hF (λe=>by have e:w.heap.size+1=C.P:=e;omega)) (by omega) (by omega) (by omega) (by omega)
  rw[zki GI HA.out];cases hr:notB n a l.tail with
  |err c e=>
   rw[hr]at FT;have hw:=zbn C [33] 316 #[.pointer (some ⟨w.heap.size,0,none⟩),.pointer (some ⟨w.heap.size+1+1,0,none⟩),.pointer (some ⟨w.heap.size+1,0,none⟩)] l d _ c e (λw2=>Fr (PT C (w.heap.size+1)) w1 w2) hk h2 (by decide) hm (by omega) hent (λW hP hF=>(FT W hP hF).mono λe w2 hE=>⟨hE.1,(PT.l (He.any.trans hF)).trans hE.2⟩);rw[Hc]at hw;unfold zaf pP at hw;have HW:=aA hw;clear hw Hc Hd Hw GD hbx Kd h1 h2 h hs hk hent hm GI hb hl GW ha He Hg hL FT Lg Fi;go_enter Tryz.func315,Tryz.ntmps315;go_wp2_with fail;refine LW.mono ?_;rintro _ wy ⟨rfl,rfl⟩;go_wp2_with fail;refine HW.mono ?_;rintro _ w3 ⟨rfl,hf⟩;go_wp2_with fail;rw[<-Ge.out]at hf;exact⟨rfl,rfl,zdP Hl.out (by omega) hf⟩
  |ok x r=>
   rw[hr]at FT;have hw:=zbE C [33] 316 #[.pointer (some ⟨w.heap.size,0,none⟩),.pointer (some ⟨w.heap.size+1+1,0,none⟩),.pointer (some ⟨w.heap.size+1,0,none⟩)] l d _ (λw2=>ResC (w.heap.size+1) (w.heap.size+3) w2 x/\PaAt C w2 r (d+1)/\Fr (PT C (w.heap.size+1)) w1 w2) hk h2 (by decide) hm (by omega) hent (λw2 h2=>⟨r,h2.2.1⟩)
    (λW hP hF=>(FT W hP hF).mono λe w2 hE=>⟨hE.1,hE.2.1.low (by rw[<-Hw];exact aK He.size hF.size),hE.2.2.1,(PT.l (He.any.trans hF)).trans hE.2.2.2⟩)
   rw[Hc]at hw;unfold zb4 pP at hw;have HW:=aA hw;clear hw Hc Hd Hw GD hbx Kd h1 h2 h hs hk hent hm GI hb hl GW ha He Hg hL FT Lg Fi;go_enter Tryz.func315,Tryz.ntmps315;go_wp2_with fail;refine LW.mono ?_;rintro _ wy ⟨rfl,rfl⟩;go_wp2_with fail;refine HW.mono ?_;rintro _ w3 ⟨rfl,w2,⟨My,GP,hf⟩,rfl⟩;rw[<-Ge.out]at hf;obtain⟨⟨A,c,B,pc,FL,KL⟩,Kq,Gg⟩:=zdC HK.out HL.out Hl.out (by omega) (by omega) My GP hf;have q0:=FL.cell 0;have q1:=FL.cell 1;have q2:=FL.cell 2;have q3:=FL.cell 3;simp only[aD]at q0 q1 q2 q3;have HV:=aA KL;have HP:=aA Kq;have HF:=aA Gg;clear My GP hf FL KL Kq Gg;go_wp2_with fail;exact bodyPost_ret (v:=cdV x.k A x.args.len c B x.of_.len pc x.at_) (by simp[results,Tryz.results315,go_sem,cdV,q0,q1,q2,q3]) rfl ⟨_,rfl,HV.out,HP.out,HF.out⟩
-- brackets
theorem zkj (C:Pcx)(n:Nat)(hs:∀m,n=m+1->NotC C m)(l:List Tk)(d:Nat)(w:World)(Ga:d+n=24)(hk:C.Ok)(h:PaAt C w l d)(GI:isP notS l=1):
  Calls Tryz.prog 315 #[.pointer (some ⟨C.P,0,none⟩)] w (CdP C d (notP n l) w):=by
 have JI:= @makeF Tryz.prog;have hL:=h.lts;have Hg:=zbf hk h;obtain⟨j,cap,m,GW,Jn,hl,F9,G7,hb,p0,p1,f0,f1,t0,t1,t2,ltP,ltT⟩:=h.cells;have JY:m<=9223372036854775807:=by omega
 have JU:(0:Int) < (m:Int):=by omega
 obtain⟨a,ha⟩:∃a:Int,a=(hdT l).at_ :=⟨_,rfl⟩;rw[<-ha]at t2 Hg;have HA:=aA ha;obtain⟨w1,Hc⟩:=aF (((w.alloc (.cells #[.pointer (some ⟨C.P,0,none⟩)] 162)).alloc (.cells #[.int .u8 0,.slice none 0 0,.slice none 0 0,.int .i64 0] 179)).alloc (.cells #[.int .i64 a] 3));obtain⟨Hd,Hw,GD,hbx,Kd⟩:=zb6 C a w w1 Hc;have h1:=h.fr Hd id id λ_ _=>id;have Hl:=aA Hd;have Ge:=aA Hc;have HK:=aA hk;have HL:=aA hL;have hent:=enters_of Tryz.func317 (by kernel_rfl) rfl;have h2:=h1.alloc (.cells #[.string ⟨#[33]⟩,.string ⟨#[91]⟩,.string ⟨#[116,114,117,101]⟩,.string ⟨#[102,97,108,115,101]⟩] 9);have Fi:=zdc C notS l d w1 h2 4 rfl (by decide);have hm:mayB [91] l=true:=zkh (Option.some.inj (zcw (j:=1) GI).1).symm (zcw (j:=1) GI).2;rw[GI]at Fi;unfold strA notS at Fi;simp only[List.map_cons,List.map_nil]at Fi;have He:Fr NoT w1 (w1.alloc (.cells #[.string ⟨#[33]⟩,.string ⟨#[91]⟩,.string ⟨#[116,114,117,101]⟩,.string ⟨#[102,97,108,115,101]⟩] 9)):=(Fr.refl NoT w1).alloc _;rw[Hw]at Fi;rw[Hc]at Fi;have LW:=aA Fi
 match n,hs,Ga with
 |0,hs,Ga=>
  obtain rfl:d=24:=by omega
  have hw:=za9 C [91] (.func (.func 317) #[] #[.pointer (some ⟨w.heap.size,0,none⟩),.pointer (some ⟨w.heap.size+1,0,none⟩)]) l _ h2 hm;rw[zoH GI];rw[Hc]at hw;unfold ErrP zaf pP at hw;have HW:=aA hw;have Hu:=aA He;clear hw Hc Hd Hw GD hbx Kd h1 h2 h hs hk hent hm GI hb hl GW ha He Hg hL Fi;go_enter Tryz.func315,Tryz.ntmps315;go_wp2_with fail;refine LW.mono ?_;rintro _ wy ⟨rfl,rfl⟩;go_wp2_with fail;refine HW.mono ?_;rintro _ w3 ⟨rfl,hf⟩;go_wp2_with fail;have He:=Hu.out;rw[Ge.out]at He;exact⟨rfl,rfl,((by rw[<-Ge.out];exact Hl.any:Fr C.T w _).trans He.any).trans hf⟩
 |n+1,hs,Ga=>
  have Lg:=hs n rfl;have FT:∀W,PaAt C W l.tail (d+1)->Fr C.T (w1.alloc (.cells #[.string ⟨#[33]⟩,.string ⟨#[91]⟩,.string ⟨#[116,114,117,101]⟩,.string ⟨#[102,97,108,115,101]⟩] 9)) W->Calls Tryz.prog 317 #[.pointer (some ⟨w.heap.size,0,none⟩),.pointer (some ⟨w.heap.size+1,0,none⟩)] W (ParC C (w.heap.size+1) (d+1) (endC [93] n l.tail) W):=λW hP hF=>
   zi1 C n Lg l.tail (d+1) w.heap.size (w.heap.size+1) W (by omega) hk hP ((GD.fr0 He).fr hF (λe=>by have e:w.heap.size=C.P:=e;omega)) (by omega) ((hbx.fr0 He).fr hF (λe=>by have e:w.heap.size+1=C.P:=e;omega)) (by omega) (by omega) (by omega) (by omega)
  rw[zoI GI];cases hr:endC [93] n l.tail with
  |err c e=>
   rw[hr]at FT;have hw:=zbn C [91] 317 #[.pointer (some ⟨w.heap.size,0,none⟩),.pointer (some ⟨w.heap.size+1,0,none⟩)] l d _ c e (λw2=>Fr (PT C (w.heap.size+1)) w1 w2) hk h2 (by decide) hm (by omega) hent (λW hP hF=>(FT W hP hF).mono λe w2 hE=>⟨hE.1,(PT.l (He.any.trans hF)).trans hE.2⟩);rw[Hc]at hw;unfold zaf pP at hw;have HW:=aA hw;clear hw Hc Hd Hw GD hbx Kd h1 h2 h hs hk hent hm GI hb hl GW ha He Hg hL FT Lg Fi;go_enter Tryz.func315,Tryz.ntmps315;go_wp2_with fail;refine LW.mono ?_;rintro _ wy ⟨rfl,rfl⟩;go_wp2_with fail;refine HW.mono ?_;rintro _ w3 ⟨rfl,hf⟩;go_wp2_with fail;rw[<-Ge.out]at hf;exact⟨rfl,rfl,zdP Hl.out (by omega) hf⟩
  |ok x r=>
   rw[hr]at FT;have hw:=zbE C [91] 317 #[.pointer (some ⟨w.heap.size,0,none⟩),.pointer (some ⟨w.heap.size+1,0,none⟩)] l d _ (λw2=>ResC (w.heap.size+1) (w.heap.size+3) w2 x/\PaAt C w2 r (d+1)/\Fr (PT C (w.heap.size+1)) w1 w2) hk h2 (by decide) hm (by omega) hent (λw2 h2=>⟨r,h2.2.1⟩)
    (λW hP hF=>(FT W hP hF).mono λe w2 hE=>⟨hE.1,hE.2.1.low (by rw[<-Hw];exact aK He.size hF.size),hE.2.2.1,(PT.l (He.any.trans hF)).trans hE.2.2.2⟩)
   rw[Hc]at hw;unfold zb4 pP at hw;have HW:=aA hw;clear hw Hc Hd Hw GD hbx Kd h1 h2 h hs hk hent hm GI hb hl GW ha He Hg hL FT Lg Fi;go_enter Tryz.func315,Tryz.ntmps315;go_wp2_with fail;refine LW.mono ?_;rintro _ wy ⟨rfl,rfl⟩;go_wp2_with fail;refine HW.mono ?_;rintro _ w3 ⟨rfl,w2,⟨My,GP,hf⟩,rfl⟩;rw[<-Ge.out]at hf;obtain⟨⟨A,c,B,pc,FL,KL⟩,Kq,Gg⟩:=zdC HK.out HL.out Hl.out (by omega) (by omega) My GP hf;have q0:=FL.cell 0;have q1:=FL.cell 1;have q2:=FL.cell 2;have q3:=FL.cell 3;simp only[aD]at q0 q1 q2 q3;have HV:=aA KL;have HP:=aA Kq;have HF:=aA Gg;clear My GP hf FL KL Kq Gg;go_wp2_with fail;exact bodyPost_ret (v:=cdV x.k A x.args.len c B x.of_.len pc x.at_) (by simp[results,Tryz.results315,go_sem,cdV,q0,q1,q2,q3]) rfl ⟨_,rfl,HV.out,HP.out,HF.out⟩
theorem zgy {C:Pcx}{w w7:World}{rb d:Nat}{k a:Int}{r:List Tk}(hL:C.P < w.heap.size/\C.TB < w.heap.size/\C.W0.heap.size<=w.heap.size)(h8:in8 k)(Hg:in64 a)(Gr:w.heap.size<=rb)
  (hp:PaAt C w7 r d) (hf:Fr C.T w w7) (w9:World)
  (h9:w9=((((w7.setCell ⟨rb,0,none⟩ (.int .u8 k)).setCell ⟨rb,1,none⟩ (.slice none 0 0)).setCell ⟨rb,2,none⟩ (.slice none 0 0)).setCell ⟨rb,3,none⟩ (.int .i64 a))):
  CdP C d (.ok ⟨k,.nil,.nil,a⟩ r) w (.returned (cdV k none 0 0 none 0 0 a)) w9:=by
 have Gl:Fr (λb=>b=rb) w7 w9:=by rw[h9];exact aJ (aJ (aJ (aJ aH)))
 refine⟨_,rfl,⟨h8,Hg,none,0,none,0,rfl,⟨aL 0,sl0,λh=>absurd h (by exact Nat.lt_irrefl 0)⟩,⟨aL 0,sl0,λh=>absurd h (by exact Nat.lt_irrefl 0)⟩⟩,hp.fr Gl (λe=>?_) (λe=>?_) (λi hi e=>?_),?_⟩
 ·have e:C.P=rb:=e;omega
 ·have e:C.TB=rb:=e;omega
 ·have e:i=rb:=e;omega
 ·rw[h9];exact Fr.high (Fr.high (Fr.high (Fr.high hf Gr _ _) Gr _ _) Gr _ _) Gr _ _
theorem not_true (C:Pcx)(n:Nat)(l:List Tk)(d:Nat)(w:World)(hk:C.Ok)(h:PaAt C w l d)(GI:isP notS l=2):
  Calls Tryz.prog 315 #[.pointer (some ⟨C.P,0,none⟩)] w (CdP C d (notP n l) w):=by
 rw[zpK GI];have hL:=h.lts;have Hg:=zbf hk h;obtain⟨j,cap,m,GW,Jn,hl,F9,G7,hb,p0,p1,f0,f1,t0,t1,t2,ltP,ltT⟩:=h.cells;have JY:m<=9223372036854775807:=by omega
 have JU:(0:Int) < (m:Int):=by omega
 obtain⟨a,ha⟩:∃a:Int,a=(hdT l).at_ :=⟨_,rfl⟩;rw[<-ha]at t2 Hg ⊢;obtain⟨w1,Hc⟩:=aF (((w.alloc (.cells #[.pointer (some ⟨C.P,0,none⟩)] 162)).alloc (.cells #[.int .u8 0,.slice none 0 0,.slice none 0 0,.int .i64 0] 179)).alloc (.cells #[.int .i64 a] 3));obtain⟨Hd,Hw,GD,hbx,Kd⟩:=zb6 C a w w1 Hc;have h1:=h.fr Hd id id λ_ _=>id;have h2:=h1.alloc (.cells #[.string ⟨#[33]⟩,.string ⟨#[91]⟩,.string ⟨#[116,114,117,101]⟩,.string ⟨#[102,97,108,115,101]⟩] 9);have He:Fr NoT w1 (w1.alloc (.cells #[.string ⟨#[33]⟩,.string ⟨#[91]⟩,.string ⟨#[116,114,117,101]⟩,.string ⟨#[102,97,108,115,101]⟩] 9)):=(Fr.refl NoT w1).alloc _;have Fi:=zdc C notS l d w1 h2 4 rfl (by decide);rw[GI]at Fi;have JG:=zbl C l d _ hk h2 (λht=>by
  have:=(zcw (j:=2) GI).1;rw[ht.1]at this;simp[notS]at this)
 unfold zd5 tkV pP at JG;unfold strA notS at Fi;simp only[List.map_cons,List.map_nil]at Fi;rw[Hw]at Fi;have HF:=aA (Hd.trans He);have MK:=aA (GD.fr0 He);have Qp:=aA (Kd.fr0 He);have JV:=aA (hbx.fr0 He);rw[Hc]at Fi JG HF MK Qp JV;have LW:=aA Fi;have Mw:=aA JG;have HL:=aA hL;clear Fi JG Hc Hd Hw GD hbx Kd h1 h2 He h hk GI hb hl GW ha hL;go_enter Tryz.func315,Tryz.ntmps315;go_wp2_with fail;refine LW.mono ?_;rintro _ wy ⟨rfl,rfl⟩;go_wp2_with fail;refine Mw.mono ?_;rintro _ w5 ⟨rfl,GP,hf⟩;have JL:=JV.fr hf (λe=>by have e:w.heap.size+1=C.P:=e;have:=HL.out;omega);have Y6:=(Qp.fr hf (λe=>by have e:w.heap.size+2=C.P:=e;have:=HL.out;omega)).cell 0;have q0:=JL.cell 0;have q1:=JL.cell 1;have q2:=JL.cell 2;have q3:=JL.cell 3;have g0:=JL.frozen 0;have g1:=JL.frozen 1;have g2:=JL.frozen 2;have g3:=JL.frozen 3;have Pl:=JL.lt;simp only[aD]at q0 q1 q2 q3 Y6;have HE:=aA (show ∀w9,w9=((((w5.setCell ⟨w.heap.size+1,0,none⟩ (.int .u8 1)).setCell ⟨w.heap.size+1,1,none⟩ (.slice none 0 0)).setCell ⟨w.heap.size+1,2,none⟩ (.slice none 0 0)).setCell ⟨w.heap.size+1,3,none⟩ (.int .i64 a))->CdP C d (.ok ⟨1,.nil,.nil,a⟩ l.tail) w (.returned (cdV 1 none 0 0 none 0 0 a)) w9 from λw9 h9=>
  zgy HL.out (by unfold in8;omega) Hg (by omega) GP (HF.any.trans hf) w9 h9)
 clear JL GP hf;go_wp2_with fail;exact bodyPost_ret (v:=cdV 1 none 0 0 none 0 0 a) (by simp[results,Tryz.results315,go_sem,cdV,q0,q1,q2,q3,Pl]) rfl (HE _ rfl)
theorem zkk (C:Pcx)(n:Nat)(l:List Tk)(d:Nat)(w:World)(hk:C.Ok)(h:PaAt C w l d)(GI:isP notS l=3):
  Calls Tryz.prog 315 #[.pointer (some ⟨C.P,0,none⟩)] w (CdP C d (notP n l) w):=by
 rw[zpL GI];have hL:=h.lts;have Hg:=zbf hk h;obtain⟨j,cap,m,GW,Jn,hl,F9,G7,hb,p0,p1,f0,f1,t0,t1,t2,ltP,ltT⟩:=h.cells;have JY:m<=9223372036854775807:=by omega
 have JU:(0:Int) < (m:Int):=by omega
 obtain⟨a,ha⟩:∃a:Int,a=(hdT l).at_ :=⟨_,rfl⟩;rw[<-ha]at t2 Hg ⊢;obtain⟨w1,Hc⟩:=aF (((w.alloc (.cells #[.pointer (some ⟨C.P,0,none⟩)] 162)).alloc (.cells #[.int .u8 0,.slice none 0 0,.slice none 0 0,.int .i64 0] 179)).alloc (.cells #[.int .i64 a] 3));obtain⟨Hd,Hw,GD,hbx,Kd⟩:=zb6 C a w w1 Hc;have h1:=h.fr Hd id id λ_ _=>id;have h2:=h1.alloc (.cells #[.string ⟨#[33]⟩,.string ⟨#[91]⟩,.string ⟨#[116,114,117,101]⟩,.string ⟨#[102,97,108,115,101]⟩] 9);have He:Fr NoT w1 (w1.alloc (.cells #[.string ⟨#[33]⟩,.string ⟨#[91]⟩,.string ⟨#[116,114,117,101]⟩,.string ⟨#[102,97,108,115,101]⟩] 9)):=(Fr.refl NoT w1).alloc _;have Fi:=zdc C notS l d w1 h2 4 rfl (by decide);rw[GI]at Fi;have JG:=zbl C l d _ hk h2 (λht=>by
  have:=(zcw (j:=3) GI).1;rw[ht.1]at this;simp[notS]at this)
 unfold zd5 tkV pP at JG;unfold strA notS at Fi;simp only[List.map_cons,List.map_nil]at Fi;rw[Hw]at Fi;have HF:=aA (Hd.trans He);have MK:=aA (GD.fr0 He);have Qp:=aA (Kd.fr0 He);have JV:=aA (hbx.fr0 He);rw[Hc]at Fi JG HF MK Qp JV;have LW:=aA Fi;have Mw:=aA JG;have HL:=aA hL;clear Fi JG Hc Hd Hw GD hbx Kd h1 h2 He h hk GI hb hl GW ha hL;go_enter Tryz.func315,Tryz.ntmps315;go_wp2_with fail;refine LW.mono ?_;rintro _ wy ⟨rfl,rfl⟩;go_wp2_with fail;refine Mw.mono ?_;rintro _ w5 ⟨rfl,GP,hf⟩;have JL:=JV.fr hf (λe=>by have e:w.heap.size+1=C.P:=e;have:=HL.out;omega);have Y6:=(Qp.fr hf (λe=>by have e:w.heap.size+2=C.P:=e;have:=HL.out;omega)).cell 0;have q0:=JL.cell 0;have q1:=JL.cell 1;have q2:=JL.cell 2;have q3:=JL.cell 3;have g0:=JL.frozen 0;have g1:=JL.frozen 1;have g2:=JL.frozen 2;have g3:=JL.frozen 3;have Pl:=JL.lt;simp only[aD]at q0 q1 q2 q3 Y6;have HE:=aA (show ∀w9,w9=((((w5.setCell ⟨w.heap.size+1,0,none⟩ (.int .u8 2)).setCell ⟨w.heap.size+1,1,none⟩ (.slice none 0 0)).setCell ⟨w.heap.size+1,2,none⟩ (.slice none 0 0)).setCell ⟨w.heap.size+1,3,none⟩ (.int .i64 a))->CdP C d (.ok ⟨2,.nil,.nil,a⟩ l.tail) w (.returned (cdV 2 none 0 0 none 0 0 a)) w9 from λw9 h9=>
  zgy HL.out (by unfold in8;omega) Hg (by omega) GP (HF.any.trans hf) w9 h9)
 clear JL GP hf;go_wp2_with fail;exact bodyPost_ret (v:=cdV 2 none 0 0 none 0 0 a) (by simp[results,Tryz.results315,go_sem,cdV,q0,q1,q2,q3,Pl]) rfl (HE _ rfl)
theorem zoJ {C:Pcx}{w w5 w7:World}{rb d L:Nat}{k a:Int}{x y:Ex}{A A2:Option Addr}{c1 c2:Nat}{r:List Tk}(hL:C.P < w.heap.size/\C.TB < w.heap.size/\C.W0.heap.size<=w.heap.size)(h8:in8 k)(Hg:in64 a)(Gr:w.heap.size<=rb)(zS:rb < L)(Pm:w.heap.size<=L)
  (hx:ExV w5 L (exV x.k x.nm x.n A x.args.len c1 x.at_) x) (VX:Fr C.T w5 w7) (hy:ExV w7 w5.heap.size (exV y.k y.nm y.n A2 y.args.len c2 y.at_) y) (zT:L<=w5.heap.size)
  (hp:PaAt C w7 r d) (hf:Fr C.T w w7) (w9:World)
  (h9:w9=((((w7.setCell ⟨rb,0,none⟩ (.int .u8 k)).setCell ⟨rb,1,none⟩ (.slice (some ⟨w7.heap.size,0,none⟩) 2 2)).setCell ⟨rb,2,none⟩ (.slice none 0 0)).setCell ⟨rb,3,none⟩ (.int .i64 a)).alloc (.cells #[.int .u8 x.k,.string x.nm,.int .i64 x.n,.slice A x.args.len c1,.int .i64 x.at_,.int .u8 y.k,.string y.nm,.int .i64 y.n,.slice A2 y.args.len c2,.int .i64 y.at_] 175)):
  CdP C d (.ok ⟨k,x.cons (y.cons .nil),.nil,a⟩ r) w (.returned (cdV k (some ⟨w7.heap.size,0,none⟩) 2 2 none 0 0 a)) w9:=by
 obtain⟨w8,G3⟩:=aF (((((w7.setCell ⟨rb,0,none⟩ (.int .u8 k)).setCell ⟨rb,1,none⟩ (.slice (some ⟨w7.heap.size,0,none⟩) 2 2)).setCell ⟨rb,2,none⟩ (.slice none 0 0)).setCell ⟨rb,3,none⟩ (.int .i64 a)));rw[<-G3]at h9;have GQ:Fr (λb=>b=rb) w7 w8:=by rw[G3];exact aJ (aJ (aJ (aJ aH)))
 have hz:w8.heap.size=w7.heap.size:=by rw[G3];simp
 have Gl:Fr (λb=>b=rb) w7 w9:=by rw[h9];exact GQ.alloc _
 have PP:w9.heap.size=w7.heap.size+1:=by rw[h9];simp[hz]
 have qT:=VX.size;have ML:=hf.size;obtain⟨x1,x2,x3,Ax,cx,ex,JJ⟩:=hx;obtain⟨y1,y2,y3,Ay,cy,ey,VQ⟩:=hy;simp only[exV,Value.agg.injEq,Array.mk.injEq,List.cons.injEq,Value.slice.injEq,true_and,and_true]at ex ey;obtain⟨rfl,rfl⟩:=ex;obtain⟨rfl,rfl⟩:=ey;have hX:∀b,New L w5 b->(b < w5.heap.size/\¬(b=C.P\/b=rb))/\New w.heap.size w9 b:=λb hb=>by
  have h1:L<=b:=hb.1;have h2:b < w5.heap.size:=hb.2;exact⟨⟨h2,by omega⟩,by omega,by omega⟩
 have hY:∀b,New w5.heap.size w7 b->(b < w7.heap.size/\¬b=rb)/\New w.heap.size w9 b:=λb hb=>by
  have h1:w5.heap.size<=b:=hb.1;have h2:b < w7.heap.size:=hb.2;exact⟨⟨h2,by omega⟩,by omega,by omega⟩
 have Y7:Fr (λb=>b=C.P\/b=rb) w5 w9:=(VX.mono λi _ h=>Or.inl h).trans (Gl.mono λi _ h=>Or.inr h);refine⟨_,rfl,⟨h8,Hg,some ⟨w7.heap.size,0,none⟩,2,none,0,rfl,⟨aL 2,sl2,λ_=>⟨w7.heap.size,0,rfl,?_⟩⟩,⟨aL 0,sl0,λh=>absurd h (by exact Nat.lt_irrefl 0)⟩⟩,hp.fr Gl (λe=>?_) (λe=>?_) (λi hi e=>?_),?_⟩
 ·refine zj7 (by rw[h9];exact Bk.new_at _ _ _ hz) ⟨by omega,by omega⟩ ⟨x1,x2,x3⟩ ⟨y1,y2,y3⟩ (JJ.imp λ_ _ h=>?_) (VQ.imp λ_ _ h=>?_)
  ·exact ExR.more (λb hb=>(hX b hb).2) (ExR.keep (Y7.same λb hb=>(hX b hb).1) h)
  ·exact ExR.more (λb hb=>(hY b hb).2) (ExR.keep (Gl.same λb hb=>(hY b hb).1) h)
 ·have e:C.P=rb:=e;omega
 ·have e:C.TB=rb:=e;omega
 ·have e:i=rb:=e;omega
 ·rw[h9,G3];exact(Fr.high (Fr.high (Fr.high (Fr.high hf Gr _ _) Gr _ _) Gr _ _) Gr _ _).alloc _
theorem zpN {n:Nat}{l r:List Tk}{x:Ex}(h:zaO n l= .ok x r):cmpP n l=if isP cmpS r < 0 then .err 90 (hdT r).at_ else(zaO n r.tail).then λy q=> .ok ⟨3+isP cmpS r,x.cons (y.cons .nil),.nil,(hdT r).at_⟩ q:=by
 unfold cmpP;rw[h];rfl
theorem zpO {n:Nat}{l:List Tk}{e a:Int}(h:zaO n l= .err e a):cmpP n l= .err e a:=by
 unfold cmpP;rw[h];rfl
theorem zoK (C:Pcx)(n:Nat)(l:List Tk)(d:Nat)(w:World)(Ga:d+n=24)(hk:C.Ok)(h:PaAt C w l d)(GI:isP notS l < 0):
  Calls Tryz.prog 315 #[.pointer (some ⟨C.P,0,none⟩)] w (CdP C d (notP n l) w):=by
 rw[zpM GI];have hL:=h.lts;obtain⟨j,cap,m,GW,Jn,hl,F9,G7,hb,p0,p1,f0,f1,t0,t1,t2,ltP,ltT⟩:=h.cells;have JY:m<=9223372036854775807:=by omega
 have JU:(0:Int) < (m:Int):=by omega
 obtain⟨a,ha⟩:∃a:Int,a=(hdT l).at_ :=⟨_,rfl⟩;rw[<-ha]at t2;obtain⟨w1,Hc⟩:=aF (((w.alloc (.cells #[.pointer (some ⟨C.P,0,none⟩)] 162)).alloc (.cells #[.int .u8 0,.slice none 0 0,.slice none 0 0,.int .i64 0] 179)).alloc (.cells #[.int .i64 a] 3));obtain⟨Hd,Hw,GD,hbx,Kd⟩:=zb6 C a w w1 Hc;have h1:=h.fr Hd id id λ_ _=>id;have h2:=h1.alloc (.cells #[.string ⟨#[33]⟩,.string ⟨#[91]⟩,.string ⟨#[116,114,117,101]⟩,.string ⟨#[102,97,108,115,101]⟩] 9);have He:Fr NoT w1 (w1.alloc (.cells #[.string ⟨#[33]⟩,.string ⟨#[91]⟩,.string ⟨#[116,114,117,101]⟩,.string ⟨#[102,97,108,115,101]⟩] 9)):=(Fr.refl NoT w1).alloc _;have Fi:=zdc C notS l d w1 h2 4 rfl (by decide);unfold strA at Fi;obtain⟨k,KV⟩:=aF (isP notS l);rw[<-KV]at Fi GI;unfold notS at Fi;simp only[List.map_cons,List.map_nil]at Fi;rw[Hw]at Fi;have e0:(k==0)=false:=by simp;omega
 have e1:(k==1)=false:=by simp;omega
 have e2:(k==2)=false:=by simp;omega
 have e3:(k==3)=false:=by simp;omega
 have hex:=zb5 C n l d _ Ga hk h2;have HF:=aA (Hd.trans He);have MK:=aA (GD.fr0 He);have JV:=aA (hbx.fr0 He);have Hx:(w1.alloc (.cells #[.string ⟨#[33]⟩,.string ⟨#[91]⟩,.string ⟨#[116,114,117,101]⟩,.string ⟨#[102,97,108,115,101]⟩] 9)).heap.size =w.heap.size+4:=by simp[Hw]
 rw[Hc]at Fi hex HF MK JV Hx;have LW:=aA Fi;have qU:=aA hex;have HL:=aA hL;have HK:=aA hk;have HZ:=aA Hx;obtain⟨R,hR⟩:=aF (cmpP n l);rw[<-hR];have HR:=aA hR;clear Fi hex Hc Hd Hw GD hbx Kd h1 h2 He h hk GI KV hb hl GW ha hL Hx hR;go_enter Tryz.func315,Tryz.ntmps315;go_wp2_with fail;refine LW.mono ?_;rintro _ wy ⟨rfl,rfl⟩;go_wp2_with fail;refine qU.mono ?_;intro e w5 hE;rcases hE.ways with⟨x,r,A,c1,hx,rfl,hv,hp,hf⟩|⟨c,e,hx,rfl,hf⟩;rotate_left
 ·go_wp2_with fail;exact⟨rfl,by rw[HR.out,zpO hx];exact⟨rfl,HF.any.trans hf⟩⟩
 rw[HZ.out]at hv;have GJ:=HR.trans (zpN hx);have Qr:=MK.fr hf (λe=>by have e:w.heap.size=C.P:=e;have:=HL.out;omega);have TI:=JV.fr hf (λe=>by have e:w.heap.size+1=C.P:=e;have:=HL.out;omega);have RL:=hf.size;rw[HZ.out]at RL;obtain⟨w6,FO⟩:=aF (w5.alloc (.cells #[.int .u8 x.k,.string x.nm,.int .i64 x.n,.slice A x.args.len c1,.int .i64 x.at_] 175));have GA:Fr NoT w5 w6:=by rw[FO];exact aH.alloc _
 have TJ:Bk w6 w5.heap.size 175 #[.int .u8 x.k,.string x.nm,.int .i64 x.n,.slice A x.args.len c1,.int .i64 x.at_]:=by rw[FO];exact Bk.new _ _ _
 have Y8:w6.heap.size=w5.heap.size+1:=by rw[FO];simp
 have Pn:=hp.fr GA id id λ_ _=>id;have h7:=Pn.alloc (.cells #[.string ⟨#[60]⟩,.string ⟨#[60,61]⟩,.string ⟨#[62]⟩,.string ⟨#[62,61]⟩,.string ⟨#[61,61]⟩,.string ⟨#[33,61]⟩] 9);have Hs:Fr NoT w6 (w6.alloc (.cells #[.string ⟨#[60]⟩,.string ⟨#[60,61]⟩,.string ⟨#[62]⟩,.string ⟨#[62,61]⟩,.string ⟨#[61,61]⟩,.string ⟨#[33,61]⟩] 9)):=aH.alloc _;have RQ:=zdc C cmpS r d w6 h7 6 rfl (by decide);unfold strA at RQ;obtain⟨q,Vb⟩:=aF (isP cmpS r);rw[<-Vb]at RQ GJ;unfold cmpS at RQ;simp only[List.map_cons,List.map_nil]at RQ;rw[Y8]at RQ;have TK:=Qr.cell 0;have qV:=Qr.lt;have FR:=zcg C 90 r d _ h7;unfold ErrP zaf pP at FR;have Hg:=zbf HK.out hp;have YO:=aA Hg;have Y9:=(HF.any.trans hf).trans (GA.any.trans Hs.any);have Fp:=aA Y9;have RD:=aA FO;rw[FO]at RQ FR;have jC:=aA RQ;have qW:=aA FR;have SU:=aA Vb;have GF:=aA GJ;have qX:=aA hv;have Za:=aA ((Qr.fr0 GA).fr0 Hs);have Zb:=aA ((TI.fr0 GA).fr0 Hs);have Zc:=aA (TJ.fr0 Hs);have H7:=aA h7;have Zd:=aA (GA.trans Hs);simp only[List.getElem?_toArray,List.getElem?_cons_zero]at TK;have qY:w5.cell? ⟨w.heap.size,0,none⟩=some (.pointer (some ⟨C.P,0,none⟩)):=TK;by_cases FV:q < 0
 ·clear hx hv hp hf GJ Qr TI GA TJ Pn h7 Hs RQ Vb FR Hg Y9 FO TK;go_wp2_with fail;refine jC.mono ?_;rintro _ wz ⟨rfl,rfl⟩;go_wp2_with fail;refine qW.mono ?_;rintro _ w8 ⟨rfl,GQ⟩;go_wp2_with fail;rw[<-RD.out]at GQ;refine⟨rfl,?_⟩;rw[GF.out,if_pos FV];exact⟨rfl,Fp.trans GQ⟩
 ·have G9:0<=q:=by omega
  have JG:=zbl C r d _ HK.out h7 (λht=>by
   have:=(zcK (signs:=cmpS) (l:=r) (by rw[<-Vb];exact G9)).1;rw[ht.1]at this;simp[cmpS]at this)
  unfold zd5 tkV pP at JG;rw[FO]at JG;have Mw:=aA JG;have jD:q<=6:=by
   have:=zh2 cmpS r;rw[<-Vb]at this;have e:cmpS.length=6:=rfl;omega
  clear hx hv hp hf GJ Qr TI GA TJ Pn h7 Hs RQ Vb FR Hg Y9 FO TK JG;go_wp2_with fail;refine jC.mono ?_;rintro _ wz ⟨rfl,rfl⟩;go_wp2_with fail;refine Mw.mono ?_;rintro _ w8 ⟨rfl,N3,GQ⟩;rw[<-RD.out]at GQ;have TL:¬C.T w5.heap.size:=λe=>by have e:w5.heap.size=C.P:=e;have:=HL.out;omega
  have TM:¬C.T w.heap.size:=λe=>by have e:w.heap.size=C.P:=e;have:=HL.out;omega
  have TN:¬C.T (w.heap.size+1):=λe=>by have e:w.heap.size+1=C.P:=e;have:=HL.out;omega
  have KU:=aA (aG TL (aG TM TN));have RS:=Za.fr GQ TM;have VY:=Zb.fr GQ TN;have MM:=Zc.fr GQ TL;have VZ:=RS.cell 0;have x0:=MM.cell 0;have x1:=MM.cell 1;have x2:=MM.cell 2;have x3:=MM.cell 3;have x4:=MM.cell 4;simp only[aD]at VZ x0 x1 x2 x3 x4;have Gt:=RS.lt;have Nh:=MM.lt;have L9:=N3.fr (T:=NoT) (Fr.drew aH) id id λ_ _=>id;have qZ:=aA (zb5 C n r.tail d _ Ga HK.out L9);have Ze:=aA RS;have Zf:=aA VY;have Zg:=aA MM;have V0:=aA ((Zd.any.trans GQ).drew);have SV:=aA (Fp.trans GQ);clear N3 GQ RS VY MM L9 TL TM TN;go_wp2_with fail
  go_region_held2 (λW'=>W'.cell? ⟨w.heap.size,0,none⟩=some (.pointer (some ⟨C.P,0,none⟩))/\W'.cell? ⟨w5.heap.size,0,none⟩=some (.int .u8 x.k)/\W'.cell? ⟨w5.heap.size,1,none⟩=some (.string x.nm)/\W'.cell? ⟨w5.heap.size,2,none⟩=some (.int .i64 x.n)/\W'.cell? ⟨w5.heap.size,3,none⟩=some (.slice A x.args.len c1)/\W'.cell? ⟨w5.heap.size,4,none⟩=some (.int .i64 x.at_))
   (first
    |(refine⟨?_,?_,?_,?_,?_,?_⟩<;>with_reducible assumption)
    |(with_reducible refine⟨(Fr.cell (T:=λb=>b=w.heap.size+1) (w:=w10) (Fr.alloc (aJ (aJ (aJ (aJ aH)))) _) SZ Kw).trans Hj,(Fr.cell (T:=λb=>b=w.heap.size+1) (w:=w10) (Fr.alloc (aJ (aJ (aJ (aJ aH)))) _) J3 JC).trans y0,(Fr.cell (T:=λb=>b=w.heap.size+1) (w:=w10) (Fr.alloc (aJ (aJ (aJ (aJ aH)))) _) J3 JC).trans y1,(Fr.cell (T:=λb=>b=w.heap.size+1) (w:=w10) (Fr.alloc (aJ (aJ (aJ (aJ aH)))) _) J3 JC).trans y2,(Fr.cell (T:=λb=>b=w.heap.size+1) (w:=w10) (Fr.alloc (aJ (aJ (aJ (aJ aH)))) _) J3 JC).trans y3,(Fr.cell (T:=λb=>b=w.heap.size+1) (w:=w10) (Fr.alloc (aJ (aJ (aJ (aJ aH)))) _) J3 JC).trans y4⟩)
    |(with_reducible refine⟨(Fr.cell (T:=NoT) (w:=w10) (Fr.alloc aH _) SZ id).trans Hj,(Fr.cell (T:=NoT) (w:=w10) (Fr.alloc aH _) J3 id).trans y0,(Fr.cell (T:=NoT) (w:=w10) (Fr.alloc aH _) J3 id).trans y1,(Fr.cell (T:=NoT) (w:=w10) (Fr.alloc aH _) J3 id).trans y2,(Fr.cell (T:=NoT) (w:=w10) (Fr.alloc aH _) J3 id).trans y3,(Fr.cell (T:=NoT) (w:=w10) (Fr.alloc aH _) J3 id).trans y4⟩)
    |(with_reducible refine⟨(Fr.cell (T:=NoT) (w:=w8) (Fr.drew aH) Gt id).trans VZ,(Fr.cell (T:=NoT) (w:=w8) (Fr.drew aH) Nh id).trans x0,(Fr.cell (T:=NoT) (w:=w8) (Fr.drew aH) Nh id).trans x1,(Fr.cell (T:=NoT) (w:=w8) (Fr.drew aH) Nh id).trans x2,(Fr.cell (T:=NoT) (w:=w8) (Fr.drew aH) Nh id).trans x3,(Fr.cell (T:=NoT) (w:=w8) (Fr.drew aH) Nh id).trans x4⟩))
   (first
    |(go_at_call 247
      with_reducible refine qZ.out.mono ?_
      intro e w10 hE;rcases hE.ways with⟨y,r2,A2,c2,hy,rfl,hv,hp,hf⟩|⟨c,e,hy,rfl,hf⟩;rotate_left
      ·have Jm:CdP C d R w (.panicked [{v:= .iface 161 (.agg #[.int .i64 c,.int .i64 e]),recovered:=false}]) w10:=by
        rw[GF.out,if_neg (Int.not_lt.2 G9),hy];exact⟨rfl,SV.drew.trans hf⟩
       exact⟨rfl,Jm⟩
      have Fl:=(Fr.drew (Fr.refl C.T w8)).trans hf;have FH:=Zf.fr Fl KU.2.2;have q0:=FH.cell 0;have q1:=FH.cell 1;have q2:=FH.cell 2;have q3:=FH.cell 3;have g0:=FH.frozen 0;have g1:=FH.frozen 1;have g2:=FH.frozen 2;have g3:=FH.frozen 3;have Qs:=Ze.fr Fl KU.2.1;have Lk:=Zg.fr Fl KU.1;have Hj:=Qs.cell 0;have y0:=Lk.cell 0;have y1:=Lk.cell 1;have y2:=Lk.cell 2;have y3:=Lk.cell 3;have y4:=Lk.cell 4;have SZ:=Qs.lt;have J3:=Lk.lt;have V1:=FH.lt;have Kw:¬w.heap.size=w.heap.size+1:=by omega
      have JC:¬w5.heap.size=w.heap.size+1:=by omega
      simp only[aD]at q0 q1 q2 q3 Hj y0 y1 y2 y3 y4;have V2:R= .ok ⟨3+q,x.cons (y.cons .nil),.nil,(hdT r).at_⟩ r2:=by rw[GF.out,if_neg (Int.not_lt.2 G9),hy];rfl
      have V3:=aA V2;have HV:=aA hv;have HP:=aA hp;have vd:=aA (SV.drew.trans hf);have Hl:=aA ((V0.out).trans hf);have X5:w5.heap.size<=w8.heap.size:=V0.size;have Vc:=aA X5;clear V2 hy hv hp hf Fl FH Qs Lk X5))
  all_goals
   go_wp2_with fail;have GR:IntKind.u8.wrap (3+IntKind.u8.wrap q)=3+q:=by simp[IntKind.wrap,IntKind.signed,IntKind.bits];omega
   rw[GR];obtain⟨k9,Vd⟩:=aF (3+q);rw[<-Vd]at V3 ⊢;have ve:in8 k9:=by unfold in8;omega
   refine bodyPost_ret (v:=cdV k9 (some ⟨w10.heap.size,0,none⟩) 2 2 none 0 0 (hdT r).at_) (by simp[results,Tryz.results315,go_sem,cdV,q0,q1,q2,q3,V1]) rfl ?_;rw[V3.out];refine zoJ (w5:=w5) (L:=w.heap.size+4) HL.out ve YO.out (by omega) (by omega) (by omega) qX.out Hl.out ?_ RL HP.out vd.out _ rfl;have hv:=HV.out;exact hv.low Vc.out
theorem zib (C:Pcx)(n:Nat)(hs:∀m,n=m+1->NotC C m)(l:List Tk)(d:Nat)(w:World)(Ga:d+n=24)(hk:C.Ok)(h:PaAt C w l d):Calls Tryz.prog 315 #[.pointer (some ⟨C.P,0,none⟩)] w (CdP C d (notP n l) w):=by
 have hle:=zh2 notS l;have e:notS.length=4:=rfl;by_cases h0:isP notS l < 0
 ·exact zoK C n l d w Ga hk h h0
 by_cases h1:isP notS l=0
 ·exact zmE C n hs l d w Ga hk h h1
 by_cases h2:isP notS l=1
 ·exact zkj C n hs l d w Ga hk h h2
 by_cases h3:isP notS l=2
 ·exact not_true C n l d w hk h h3
 ·have h4:isP notS l≠4:=λh=>by
   have:=(zcw (j:=4) h).1;simp[notS]at this
  exact zkk C n l d w hk h (by omega)
theorem zmF (C:Pcx)(hk:C.Ok):∀n,NotC C n:=by
 intro n
 induction n with
 |zero=>exact λl d w Ga h=>zib C 0 (λm h=>absurd h (by omega)) l d w Ga hk h
 |succ n ih=>exact λl d w Ga h=>zib C (n+1) (λm h=>(show n=m by omega)▸ih) l d w Ga hk h
theorem zkl (C:Pcx)(n:Nat)(l:List Tk)(d:Nat)(w:World)(Ga:d+n=24)(hk:C.Ok)(h:PaAt C w l d):Calls Tryz.prog 310 #[.pointer (some ⟨C.P,0,none⟩)] w (CdP C d (zec n l) w):=zia C n (zmF C hk n) l d w Ga hk h
