/- parse: not: a bang, brackets, true and false. -/
import Derived.Test.YtfomomaomggpbaaGreatDoorJgPc
set_option linter.all false
set_option maxHeartbeats 3200000
set_option maxRecDepth 100000
namespace Go.Proofs.YtfomomaomggpbaaGreatDoor
open Go.RowKit Go.Shelf
theorem zdY (x:ByteArray):∀(zs:List ByteArray)(i:Nat),0<=Lib.idxFromS zs x i->∃j:Nat,Lib.idxFromS zs x i=((i+j:Nat):Int)/\zs[j]?=some x
 | [],i,h=>by simp[Lib.idxFromS]at h
 |z::zs,i,h=>by
  unfold Lib.idxFromS at h ⊢;split
  ·rename_i hz;exact⟨0,rfl,by simp[hz]⟩
  ·rename_i hz;rw[if_neg hz]at h;obtain⟨j,h1,h2⟩:=zdY x zs (i+1) h;exact⟨j+1,by rw[h1];congr 1;omega,by simpa using h2⟩
theorem zcr {signs:List (List UInt8)}{l:List Tk}{j:Nat}(h:isP signs l=(j:Int)):signs[j]?=some (hdT l).text /\(hdT l).kind ≠2:=by
 have h0:0<=isP signs l:=by omega
 have h2:=zcF h0;refine⟨?_,h2.2⟩;unfold isP at h;rw[if_neg h2.2]at h;obtain⟨i,h3,h4⟩:=zdY (txt (hdT l)) (signs.map λs=>(⟨s.toArray⟩:ByteArray)) 0 (by show 0<=Lib.idxOfS _ _;omega);have h5:i=j:=by
  have h3:Lib.idxOfS _ _=((0+i:Nat):Int):=h3;omega
 subst h5;rw[List.getElem?_map]at h4;cases hs:signs[i]? with
 |none=>rw[hs]at h4;cases h4
 |some s=>
  rw[hs]at h4;have:=zmD (Option.some.inj h4);rw[this]
theorem zjn {s:List UInt8}{l:List Tk}(h:(hdT l).text =s)(hk:(hdT l).kind ≠2):mayB s l=true:=by
 unfold mayB isP;rw[if_neg hk];simp[Lib.idxOfS,Lib.idxFromS,txt,h]
theorem zc4 (C:Pcx)(signs:List (List UInt8))(l:List Tk)(d:Nat)(w:World)(h:PaAt C (w.alloc (.cells (strA signs) 9)) l d)(n:Nat)(hn:n=signs.length)(Fu:signs.length<=100):
  Calls Tryz.prog 200 #[.pointer (some ⟨C.P,0,none⟩),.slice (some ⟨w.heap.size,0,none⟩) n n] (w.alloc (.cells (strA signs) 9)) λe w'=>e= .returned (.int .i64 (isP signs l))/\w.alloc (.cells (strA signs) 9)=w':=by
 subst hn;exact zhh C signs l d w.heap.size 0 _ _ h (by omega) λj hj=>by
  rw[Nat.zero_add,(Bk.new w _ _).cell j];simp[strA,hj]
theorem znm {l:List Tk}(h:isP notS l=0):notP 0 l= .err 91 (hdT l).at_ :=by unfold notP;rw[if_pos h]
theorem zjo {n:Nat}{l:List Tk}{a:Int}(h:isP notS l=0)(ha:a=((hdT l).at_ :Int)):notP (n+1) l=notB n a l.tail:=by rw[ha];unfold notP;rw[if_pos h];rfl
theorem znn {l:List Tk}(h:isP notS l=1):notP 0 l= .err 91 (hdT l).at_ :=by unfold notP;rw[if_neg (by omega),if_pos h]
theorem zno {n:Nat}{l:List Tk}(h:isP notS l=1):notP (n+1) l=endC [93] n l.tail:=by unfold notP;rw[if_neg (by omega),if_pos h];rfl
theorem zoi {n:Nat}{l:List Tk}(h:isP notS l=2):notP n l= .ok ⟨1,.nil,.nil,(hdT l).at_⟩ l.tail:=by
 cases n<;>(unfold notP;rw[if_neg (by omega),if_neg (by omega),if_pos (Or.inl h),h];rfl)
theorem zoj {n:Nat}{l:List Tk}(h:isP notS l=3):notP n l= .ok ⟨2,.nil,.nil,(hdT l).at_⟩ l.tail:=by
 cases n<;>(unfold notP;rw[if_neg (by omega),if_neg (by omega),if_pos (Or.inr h),h];rfl)
theorem zok {n:Nat}{l:List Tk}(h:isP notS l < 0):notP n l=cmpP n l:=by
 cases n<;>(unfold notP;rw[if_neg (by omega),if_neg (by omega),if_neg (by omega)])
theorem zbZ (C:Pcx)(a:Int)(w w1:World)(hw:w1=((w.alloc (.cells #[.pointer (some ⟨C.P,0,none⟩)] 162)).alloc (.cells #[.int .u8 0,.slice none 0 0,.slice none 0 0,.int .i64 0] 179)).alloc (.cells #[.int .i64 a] 3)):
  Fr NoT w w1/\w1.heap.size=w.heap.size+3/\Bk w1 w.heap.size 162 #[.pointer (some ⟨C.P,0,none⟩)]/\Bk w1 (w.heap.size+1) 179 #[.int .u8 0,.slice none 0 0,.slice none 0 0,.int .i64 0]/\Bk w1 (w.heap.size+2) 3 #[.int .i64 a]:=by
 subst hw;exact⟨(((Fr.refl _ _).alloc _).alloc _).alloc _,by simp,((Bk.new _ _ _).alloc _).alloc _,(Bk.new_at _ _ _ (by simp)).alloc _,Bk.new_at _ _ _ (by simp)⟩
theorem zdn {C:Pcx}{w w1 w2:World}{rb d L:Nat}{x:Cn}{r:List Tk}(hk:C.Ok)(hL:C.P < w.heap.size/\C.TB < w.heap.size/\C.W0.heap.size<=w.heap.size)(h1:Fr NoT w w1)(Gn:w.heap.size<=rb)(XR:w.heap.size<=L)
  (Mj:ResC rb L w2 x) (GI:PaAt C w2 r (d+1)) (hf:Fr (PT C rb) w1 w2):
  ResC rb w.heap.size (w2.setCell ⟨C.P,1,none⟩ (.int .i64 d)) x/\PaAt C (w2.setCell ⟨C.P,1,none⟩ (.int .i64 d)) r d/\Fr C.T w (w2.setCell ⟨C.P,1,none⟩ (.int .i64 d)):=by
 have JR:Fr C.T w2 (w2.setCell ⟨C.P,1,none⟩ (.int .i64 d)):=(Fr.refl C.T w2).setCell (p:=⟨C.P,1,none⟩) (Or.inl C.Tp) _;refine⟨(Mj.fr JR (by omega) (by omega)).low XR,GI.deep hk (d':=d) (v:=(d:Int)) rfl,((h1.any.trans hf).trans (PT.l JR)).mono λi hi e=>?_⟩;rcases e with e|e
 ·exact e
 ·omega
-- a bang
theorem zlx (C:Pcx)(n:Nat)(hs:∀m,n=m+1->NotC C m)(l:List Tk)(d:Nat)(w:World)(Gd:d+n=24)(hk:C.Ok)(h:PaAt C w l d)(Gz:isP notS l=0):
  Calls Tryz.prog 315 #[.pointer (some ⟨C.P,0,none⟩)] w (CdP C d (notP n l) w):=by
 have Jt:= @makeF Tryz.prog;have hL:=h.lts;have Hh:=zbc hk h;obtain⟨j,cap,m,GK,Jq,hl,Ln,FS,hb,p0,p1,f0,f1,t0,t1,t2,ltP,ltT⟩:=h.cells;have KG:m<=9223372036854775807:=by omega
 have JP:(0:Int) < (m:Int):=by omega
 obtain⟨a,ha⟩:∃a:Int,a=(hdT l).at_ :=⟨_,rfl⟩;rw[<-ha]at t2 Hh;have HA:=hdq ha;obtain⟨w1,Hc⟩:=nmq (((w.alloc (.cells #[.pointer (some ⟨C.P,0,none⟩)] 162)).alloc (.cells #[.int .u8 0,.slice none 0 0,.slice none 0 0,.int .i64 0] 179)).alloc (.cells #[.int .i64 a] 3));obtain⟨Hg,Hy,Gx,hbx,JT⟩:=zbZ C a w w1 Hc;have h1:=h.fr Hg id id λ_ _=>id;have Hs:=hdq Hg;have Gg:=hdq Hc;have HK:=hdq hk;have HL:=hdq hL;have hent:=enters_of Tryz.func316 (by kernel_rfl) rfl;have h2:=h1.alloc (.cells #[.string ⟨#[33]⟩,.string ⟨#[91]⟩,.string ⟨#[116,114,117,101]⟩,.string ⟨#[102,97,108,115,101]⟩] 9);have G4:=zc4 C notS l d w1 h2 4 rfl (by decide);have hm:mayB [33] l=true:=zjn (Option.some.inj (zcr (j:=0) Gz).1).symm (zcr (j:=0) Gz).2;rw[Gz]at G4;unfold strA notS at G4;simp only[List.map_cons,List.map_nil]at G4;have He:Fr NoT w1 (w1.alloc (.cells #[.string ⟨#[33]⟩,.string ⟨#[91]⟩,.string ⟨#[116,114,117,101]⟩,.string ⟨#[102,97,108,115,101]⟩] 9)):=(Fr.refl NoT w1).alloc _;rw[Hy]at G4;rw[Hc]at G4;have Lz:=hdq G4
 match n,hs,Gd with
 |0,hs,Gd=>
  obtain rfl:d=24:=by omega
  have hw:=za7 C [33] (.func (.func 316) #[] #[.pointer (some ⟨w.heap.size,0,none⟩),.pointer (some ⟨w.heap.size+1+1,0,none⟩),.pointer (some ⟨w.heap.size+1,0,none⟩)]) l _ h2 hm;rw[znm Gz];rw[Hc]at hw;unfold ErrP zae pP at hw;have HW:=hdq hw;have Hv:=hdq He;clear hw Hc Hg Hy Gx hbx JT h1 h2 h hs hk hent hm Gz hb hl GK ha He Hh hL G4;go_enter Tryz.func315,Tryz.ntmps315;go_wp2_with fail;refine Lz.mono ?_;rintro _ wy ⟨rfl,rfl⟩;go_wp2_with fail;refine HW.mono ?_;rintro _ w3 ⟨rfl,hf⟩;go_wp2_with fail;have He:=Hv.out;rw[Gg.out]at He;exact⟨rfl,rfl,((by rw[<-Gg.out];exact Hs.any:Fr C.T w _).trans He.any).trans hf⟩
 |n+1,hs,Gd=>
  have KS:=hs n rfl;have FD:∀W,PaAt C W l.tail (d+1)->Fr C.T (w1.alloc (.cells #[.string ⟨#[33]⟩,.string ⟨#[91]⟩,.string ⟨#[116,114,117,101]⟩,.string ⟨#[102,97,108,115,101]⟩] 9)) W->Calls Tryz.prog 316 #[.pointer (some ⟨w.heap.size,0,none⟩),.pointer (some ⟨w.heap.size+2,0,none⟩),.pointer (some ⟨w.heap.size+1,0,none⟩)] W (ParC C (w.heap.size+1) (d+1) (notB n a l.tail) W):=λW hP hF=>
   zlw C n KS l.tail (d+1) w.heap.size (w.heap.size+2) (w.heap.size+1) a W Hh (by omega) hk hP ((Gx.fr0 He).fr hF (λe=>by have e:w.heap.size=C.P:=e;omega)) (by omega) ((JT.fr0 He).fr hF (λe=>by have e:w.heap.size+2=C.P:=e;omega)) (by omega) (by omega) ((hbx.fr0 He).fr hF (λe=>by have e:w.heap.size+1=C.P:=e;omega)) (by omega) (by omega) (by omega) (by omega)
  rw[zjo Gz HA.out];cases hr:notB n a l.tail with
  |err c e=>
   rw[hr]at FD;have hw:=zbm C [33] 316 #[.pointer (some ⟨w.heap.size,0,none⟩),.pointer (some ⟨w.heap.size+1+1,0,none⟩),.pointer (some ⟨w.heap.size+1,0,none⟩)] l d _ c e (λw2=>Fr (PT C (w.heap.size+1)) w1 w2) hk h2 (by decide) hm (by omega) hent (λW hP hF=>(FD W hP hF).mono λe w2 hE=>⟨hE.1,(PT.l (He.any.trans hF)).trans hE.2⟩);rw[Hc]at hw;unfold zae pP at hw;have HW:=hdq hw;clear hw Hc Hg Hy Gx hbx JT h1 h2 h hs hk hent hm Gz hb hl GK ha He Hh hL FD KS G4;go_enter Tryz.func315,Tryz.ntmps315;go_wp2_with fail;refine Lz.mono ?_;rintro _ wy ⟨rfl,rfl⟩;go_wp2_with fail;refine HW.mono ?_;rintro _ w3 ⟨rfl,hf⟩;go_wp2_with fail;rw[<-Gg.out]at hf;exact⟨rfl,rfl,zdA Hs.out (by omega) hf⟩
  |ok x r=>
   rw[hr]at FD;have hw:=zbz C [33] 316 #[.pointer (some ⟨w.heap.size,0,none⟩),.pointer (some ⟨w.heap.size+1+1,0,none⟩),.pointer (some ⟨w.heap.size+1,0,none⟩)] l d _ (λw2=>ResC (w.heap.size+1) (w.heap.size+3) w2 x/\PaAt C w2 r (d+1)/\Fr (PT C (w.heap.size+1)) w1 w2) hk h2 (by decide) hm (by omega) hent (λw2 h2=>⟨r,h2.2.1⟩)
    (λW hP hF=>(FD W hP hF).mono λe w2 hE=>⟨hE.1,hE.2.1.low (by rw[<-Hy];exact leq9 He.size hF.size),hE.2.2.1,(PT.l (He.any.trans hF)).trans hE.2.2.2⟩)
   rw[Hc]at hw;unfold zbX pP at hw;have HW:=hdq hw;clear hw Hc Hg Hy Gx hbx JT h1 h2 h hs hk hent hm Gz hb hl GK ha He Hh hL FD KS G4;go_enter Tryz.func315,Tryz.ntmps315;go_wp2_with fail;refine Lz.mono ?_;rintro _ wy ⟨rfl,rfl⟩;go_wp2_with fail;refine HW.mono ?_;rintro _ w3 ⟨rfl,w2,⟨Mj,GI,hf⟩,rfl⟩;rw[<-Gg.out]at hf;obtain⟨⟨A,c,B,pc,Fv,Kt⟩,J7,Ga⟩:=zdn HK.out HL.out Hs.out (by omega) (by omega) Mj GI hf;have q0:=Fv.cell 0;have q1:=Fv.cell 1;have q2:=Fv.cell 2;have q3:=Fv.cell 3;simp only[getsL]at q0 q1 q2 q3;have HV:=hdq Kt;have HP:=hdq J7;have HF:=hdq Ga;clear Mj GI hf Fv Kt J7 Ga;go_wp2_with fail;exact bodyPost_ret (v:=cdV x.k A x.args.len c B x.of_.len pc x.at_) (by simp[results,Tryz.results315,go_sem,cdV,q0,q1,q2,q3]) rfl ⟨_,rfl,HV.out,HP.out,HF.out⟩
-- brackets
theorem zjp (C:Pcx)(n:Nat)(hs:∀m,n=m+1->NotC C m)(l:List Tk)(d:Nat)(w:World)(Gd:d+n=24)(hk:C.Ok)(h:PaAt C w l d)(Gz:isP notS l=1):
  Calls Tryz.prog 315 #[.pointer (some ⟨C.P,0,none⟩)] w (CdP C d (notP n l) w):=by
 have Jt:= @makeF Tryz.prog;have hL:=h.lts;have Hh:=zbc hk h;obtain⟨j,cap,m,GK,Jq,hl,Ln,FS,hb,p0,p1,f0,f1,t0,t1,t2,ltP,ltT⟩:=h.cells;have KG:m<=9223372036854775807:=by omega
 have JP:(0:Int) < (m:Int):=by omega
 obtain⟨a,ha⟩:∃a:Int,a=(hdT l).at_ :=⟨_,rfl⟩;rw[<-ha]at t2 Hh;have HA:=hdq ha;obtain⟨w1,Hc⟩:=nmq (((w.alloc (.cells #[.pointer (some ⟨C.P,0,none⟩)] 162)).alloc (.cells #[.int .u8 0,.slice none 0 0,.slice none 0 0,.int .i64 0] 179)).alloc (.cells #[.int .i64 a] 3));obtain⟨Hg,Hy,Gx,hbx,JT⟩:=zbZ C a w w1 Hc;have h1:=h.fr Hg id id λ_ _=>id;have Hs:=hdq Hg;have Gg:=hdq Hc;have HK:=hdq hk;have HL:=hdq hL;have hent:=enters_of Tryz.func317 (by kernel_rfl) rfl;have h2:=h1.alloc (.cells #[.string ⟨#[33]⟩,.string ⟨#[91]⟩,.string ⟨#[116,114,117,101]⟩,.string ⟨#[102,97,108,115,101]⟩] 9);have G4:=zc4 C notS l d w1 h2 4 rfl (by decide);have hm:mayB [91] l=true:=zjn (Option.some.inj (zcr (j:=1) Gz).1).symm (zcr (j:=1) Gz).2;rw[Gz]at G4;unfold strA notS at G4;simp only[List.map_cons,List.map_nil]at G4;have He:Fr NoT w1 (w1.alloc (.cells #[.string ⟨#[33]⟩,.string ⟨#[91]⟩,.string ⟨#[116,114,117,101]⟩,.string ⟨#[102,97,108,115,101]⟩] 9)):=(Fr.refl NoT w1).alloc _;rw[Hy]at G4;rw[Hc]at G4;have Lz:=hdq G4
 match n,hs,Gd with
 |0,hs,Gd=>
  obtain rfl:d=24:=by omega
  have hw:=za7 C [91] (.func (.func 317) #[] #[.pointer (some ⟨w.heap.size,0,none⟩),.pointer (some ⟨w.heap.size+1,0,none⟩)]) l _ h2 hm;rw[znn Gz];rw[Hc]at hw;unfold ErrP zae pP at hw;have HW:=hdq hw;have Hv:=hdq He;clear hw Hc Hg Hy Gx hbx JT h1 h2 h hs hk hent hm Gz hb hl GK ha He Hh hL G4;go_enter Tryz.func315,Tryz.ntmps315;go_wp2_with fail;refine Lz.mono ?_;rintro _ wy ⟨rfl,rfl⟩;go_wp2_with fail;refine HW.mono ?_;rintro _ w3 ⟨rfl,hf⟩;go_wp2_with fail;have He:=Hv.out;rw[Gg.out]at He;exact⟨rfl,rfl,((by rw[<-Gg.out];exact Hs.any:Fr C.T w _).trans He.any).trans hf⟩
 |n+1,hs,Gd=>
  have KS:=hs n rfl;have FD:∀W,PaAt C W l.tail (d+1)->Fr C.T (w1.alloc (.cells #[.string ⟨#[33]⟩,.string ⟨#[91]⟩,.string ⟨#[116,114,117,101]⟩,.string ⟨#[102,97,108,115,101]⟩] 9)) W->Calls Tryz.prog 317 #[.pointer (some ⟨w.heap.size,0,none⟩),.pointer (some ⟨w.heap.size+1,0,none⟩)] W (ParC C (w.heap.size+1) (d+1) (endC [93] n l.tail) W):=λW hP hF=>
   zid C n KS l.tail (d+1) w.heap.size (w.heap.size+1) W (by omega) hk hP ((Gx.fr0 He).fr hF (λe=>by have e:w.heap.size=C.P:=e;omega)) (by omega) ((hbx.fr0 He).fr hF (λe=>by have e:w.heap.size+1=C.P:=e;omega)) (by omega) (by omega) (by omega) (by omega)
  rw[zno Gz];cases hr:endC [93] n l.tail with
  |err c e=>
   rw[hr]at FD;have hw:=zbm C [91] 317 #[.pointer (some ⟨w.heap.size,0,none⟩),.pointer (some ⟨w.heap.size+1,0,none⟩)] l d _ c e (λw2=>Fr (PT C (w.heap.size+1)) w1 w2) hk h2 (by decide) hm (by omega) hent (λW hP hF=>(FD W hP hF).mono λe w2 hE=>⟨hE.1,(PT.l (He.any.trans hF)).trans hE.2⟩);rw[Hc]at hw;unfold zae pP at hw;have HW:=hdq hw;clear hw Hc Hg Hy Gx hbx JT h1 h2 h hs hk hent hm Gz hb hl GK ha He Hh hL FD KS G4;go_enter Tryz.func315,Tryz.ntmps315;go_wp2_with fail;refine Lz.mono ?_;rintro _ wy ⟨rfl,rfl⟩;go_wp2_with fail;refine HW.mono ?_;rintro _ w3 ⟨rfl,hf⟩;go_wp2_with fail;rw[<-Gg.out]at hf;exact⟨rfl,rfl,zdA Hs.out (by omega) hf⟩
  |ok x r=>
   rw[hr]at FD;have hw:=zbz C [91] 317 #[.pointer (some ⟨w.heap.size,0,none⟩),.pointer (some ⟨w.heap.size+1,0,none⟩)] l d _ (λw2=>ResC (w.heap.size+1) (w.heap.size+3) w2 x/\PaAt C w2 r (d+1)/\Fr (PT C (w.heap.size+1)) w1 w2) hk h2 (by decide) hm (by omega) hent (λw2 h2=>⟨r,h2.2.1⟩)
    (λW hP hF=>(FD W hP hF).mono λe w2 hE=>⟨hE.1,hE.2.1.low (by rw[<-Hy];exact leq9 He.size hF.size),hE.2.2.1,(PT.l (He.any.trans hF)).trans hE.2.2.2⟩)
   rw[Hc]at hw;unfold zbX pP at hw;have HW:=hdq hw;clear hw Hc Hg Hy Gx hbx JT h1 h2 h hs hk hent hm Gz hb hl GK ha He Hh hL FD KS G4;go_enter Tryz.func315,Tryz.ntmps315;go_wp2_with fail;refine Lz.mono ?_;rintro _ wy ⟨rfl,rfl⟩;go_wp2_with fail;refine HW.mono ?_;rintro _ w3 ⟨rfl,w2,⟨Mj,GI,hf⟩,rfl⟩;rw[<-Gg.out]at hf;obtain⟨⟨A,c,B,pc,Fv,Kt⟩,J7,Ga⟩:=zdn HK.out HL.out Hs.out (by omega) (by omega) Mj GI hf;have q0:=Fv.cell 0;have q1:=Fv.cell 1;have q2:=Fv.cell 2;have q3:=Fv.cell 3;simp only[getsL]at q0 q1 q2 q3;have HV:=hdq Kt;have HP:=hdq J7;have HF:=hdq Ga;clear Mj GI hf Fv Kt J7 Ga;go_wp2_with fail;exact bodyPost_ret (v:=cdV x.k A x.args.len c B x.of_.len pc x.at_) (by simp[results,Tryz.results315,go_sem,cdV,q0,q1,q2,q3]) rfl ⟨_,rfl,HV.out,HP.out,HF.out⟩
theorem zf2 {C:Pcx}{w w7:World}{rb d:Nat}{k a:Int}{r:List Tk}(hL:C.P < w.heap.size/\C.TB < w.heap.size/\C.W0.heap.size<=w.heap.size)(h8:in8 k)(Hh:in64 a)(Gn:w.heap.size<=rb)
  (hp:PaAt C w7 r d) (hf:Fr C.T w w7) (w9:World)
  (h9:w9=((((w7.setCell ⟨rb,0,none⟩ (.int .u8 k)).setCell ⟨rb,1,none⟩ (.slice none 0 0)).setCell ⟨rb,2,none⟩ (.slice none 0 0)).setCell ⟨rb,3,none⟩ (.int .i64 a))):
  CdP C d (.ok ⟨k,.nil,.nil,a⟩ r) w (.returned (cdV k none 0 0 none 0 0 a)) w9:=by
 have Gk:Fr (λb=>b=rb) w7 w9:=by rw[h9];exact Fr.own (Fr.own (Fr.own (Fr.own (Fr.refl _ _) _ _) _ _) _ _) _ _
 refine⟨_,rfl,⟨h8,Hh,none,0,none,0,rfl,⟨lrq 0,sl0,λh=>absurd h (by exact Nat.lt_irrefl 0)⟩,⟨lrq 0,sl0,λh=>absurd h (by exact Nat.lt_irrefl 0)⟩⟩,hp.fr Gk (λe=>?_) (λe=>?_) (λi hi e=>?_),?_⟩
 ·have e:C.P=rb:=e;omega
 ·have e:C.TB=rb:=e;omega
 ·have e:i=rb:=e;omega
 ·rw[h9];exact Fr.high (Fr.high (Fr.high (Fr.high hf Gn _ _) Gn _ _) Gn _ _) Gn _ _
theorem not_true (C:Pcx)(n:Nat)(l:List Tk)(d:Nat)(w:World)(hk:C.Ok)(h:PaAt C w l d)(Gz:isP notS l=2):
  Calls Tryz.prog 315 #[.pointer (some ⟨C.P,0,none⟩)] w (CdP C d (notP n l) w):=by
 rw[zoi Gz];have hL:=h.lts;have Hh:=zbc hk h;obtain⟨j,cap,m,GK,Jq,hl,Ln,FS,hb,p0,p1,f0,f1,t0,t1,t2,ltP,ltT⟩:=h.cells;have KG:m<=9223372036854775807:=by omega
 have JP:(0:Int) < (m:Int):=by omega
 obtain⟨a,ha⟩:∃a:Int,a=(hdT l).at_ :=⟨_,rfl⟩;rw[<-ha]at t2 Hh ⊢;obtain⟨w1,Hc⟩:=nmq (((w.alloc (.cells #[.pointer (some ⟨C.P,0,none⟩)] 162)).alloc (.cells #[.int .u8 0,.slice none 0 0,.slice none 0 0,.int .i64 0] 179)).alloc (.cells #[.int .i64 a] 3));obtain⟨Hg,Hy,Gx,hbx,JT⟩:=zbZ C a w w1 Hc;have h1:=h.fr Hg id id λ_ _=>id;have h2:=h1.alloc (.cells #[.string ⟨#[33]⟩,.string ⟨#[91]⟩,.string ⟨#[116,114,117,101]⟩,.string ⟨#[102,97,108,115,101]⟩] 9);have He:Fr NoT w1 (w1.alloc (.cells #[.string ⟨#[33]⟩,.string ⟨#[91]⟩,.string ⟨#[116,114,117,101]⟩,.string ⟨#[102,97,108,115,101]⟩] 9)):=(Fr.refl NoT w1).alloc _;have G4:=zc4 C notS l d w1 h2 4 rfl (by decide);rw[Gz]at G4;have Js:=zbk C l d _ hk h2 (λht=>by
  have:=(zcr (j:=2) Gz).1;rw[ht.1]at this;simp[notS]at this)
 unfold zdQ tkV pP at Js;unfold strA notS at G4;simp only[List.map_cons,List.map_nil]at G4;rw[Hy]at G4;have HF:=hdq (Hg.trans He);have Mw:=hdq (Gx.fr0 He);have PS:=hdq (JT.fr0 He);have JC:=hdq (hbx.fr0 He);rw[Hc]at G4 Js HF Mw PS JC;have Lz:=hdq G4;have Mg:=hdq Js;have HL:=hdq hL;clear G4 Js Hc Hg Hy Gx hbx JT h1 h2 He h hk Gz hb hl GK ha hL;go_enter Tryz.func315,Tryz.ntmps315;go_wp2_with fail;refine Lz.mono ?_;rintro _ wy ⟨rfl,rfl⟩;go_wp2_with fail;refine Mg.mono ?_;rintro _ w5 ⟨rfl,GI,hf⟩;have Jw:=JC.fr hf (λe=>by have e:w.heap.size+1=C.P:=e;have:=HL.out;omega);have X2:=(PS.fr hf (λe=>by have e:w.heap.size+2=C.P:=e;have:=HL.out;omega)).cell 0;have q0:=Jw.cell 0;have q1:=Jw.cell 1;have q2:=Jw.cell 2;have q3:=Jw.cell 3;have g0:=Jw.frozen 0;have g1:=Jw.frozen 1;have g2:=Jw.frozen 2;have g3:=Jw.frozen 3;have N0:=Jw.lt;simp only[getsL]at q0 q1 q2 q3 X2;have HE:=hdq (show ∀w9,w9=((((w5.setCell ⟨w.heap.size+1,0,none⟩ (.int .u8 1)).setCell ⟨w.heap.size+1,1,none⟩ (.slice none 0 0)).setCell ⟨w.heap.size+1,2,none⟩ (.slice none 0 0)).setCell ⟨w.heap.size+1,3,none⟩ (.int .i64 a))->CdP C d (.ok ⟨1,.nil,.nil,a⟩ l.tail) w (.returned (cdV 1 none 0 0 none 0 0 a)) w9 from λw9 h9=>
  zf2 HL.out (by unfold in8;omega) Hh (by omega) GI (HF.any.trans hf) w9 h9)
 clear Jw GI hf;go_wp2_with fail;exact bodyPost_ret (v:=cdV 1 none 0 0 none 0 0 a) (by simp[results,Tryz.results315,go_sem,cdV,q0,q1,q2,q3,N0]) rfl (HE _ rfl)
theorem zjq (C:Pcx)(n:Nat)(l:List Tk)(d:Nat)(w:World)(hk:C.Ok)(h:PaAt C w l d)(Gz:isP notS l=3):
  Calls Tryz.prog 315 #[.pointer (some ⟨C.P,0,none⟩)] w (CdP C d (notP n l) w):=by
 rw[zoj Gz];have hL:=h.lts;have Hh:=zbc hk h;obtain⟨j,cap,m,GK,Jq,hl,Ln,FS,hb,p0,p1,f0,f1,t0,t1,t2,ltP,ltT⟩:=h.cells;have KG:m<=9223372036854775807:=by omega
 have JP:(0:Int) < (m:Int):=by omega
 obtain⟨a,ha⟩:∃a:Int,a=(hdT l).at_ :=⟨_,rfl⟩;rw[<-ha]at t2 Hh ⊢;obtain⟨w1,Hc⟩:=nmq (((w.alloc (.cells #[.pointer (some ⟨C.P,0,none⟩)] 162)).alloc (.cells #[.int .u8 0,.slice none 0 0,.slice none 0 0,.int .i64 0] 179)).alloc (.cells #[.int .i64 a] 3));obtain⟨Hg,Hy,Gx,hbx,JT⟩:=zbZ C a w w1 Hc;have h1:=h.fr Hg id id λ_ _=>id;have h2:=h1.alloc (.cells #[.string ⟨#[33]⟩,.string ⟨#[91]⟩,.string ⟨#[116,114,117,101]⟩,.string ⟨#[102,97,108,115,101]⟩] 9);have He:Fr NoT w1 (w1.alloc (.cells #[.string ⟨#[33]⟩,.string ⟨#[91]⟩,.string ⟨#[116,114,117,101]⟩,.string ⟨#[102,97,108,115,101]⟩] 9)):=(Fr.refl NoT w1).alloc _;have G4:=zc4 C notS l d w1 h2 4 rfl (by decide);rw[Gz]at G4;have Js:=zbk C l d _ hk h2 (λht=>by
  have:=(zcr (j:=3) Gz).1;rw[ht.1]at this;simp[notS]at this)
 unfold zdQ tkV pP at Js;unfold strA notS at G4;simp only[List.map_cons,List.map_nil]at G4;rw[Hy]at G4;have HF:=hdq (Hg.trans He);have Mw:=hdq (Gx.fr0 He);have PS:=hdq (JT.fr0 He);have JC:=hdq (hbx.fr0 He);rw[Hc]at G4 Js HF Mw PS JC;have Lz:=hdq G4;have Mg:=hdq Js;have HL:=hdq hL;clear G4 Js Hc Hg Hy Gx hbx JT h1 h2 He h hk Gz hb hl GK ha hL;go_enter Tryz.func315,Tryz.ntmps315;go_wp2_with fail;refine Lz.mono ?_;rintro _ wy ⟨rfl,rfl⟩;go_wp2_with fail;refine Mg.mono ?_;rintro _ w5 ⟨rfl,GI,hf⟩;have Jw:=JC.fr hf (λe=>by have e:w.heap.size+1=C.P:=e;have:=HL.out;omega);have X2:=(PS.fr hf (λe=>by have e:w.heap.size+2=C.P:=e;have:=HL.out;omega)).cell 0;have q0:=Jw.cell 0;have q1:=Jw.cell 1;have q2:=Jw.cell 2;have q3:=Jw.cell 3;have g0:=Jw.frozen 0;have g1:=Jw.frozen 1;have g2:=Jw.frozen 2;have g3:=Jw.frozen 3;have N0:=Jw.lt;simp only[getsL]at q0 q1 q2 q3 X2;have HE:=hdq (show ∀w9,w9=((((w5.setCell ⟨w.heap.size+1,0,none⟩ (.int .u8 2)).setCell ⟨w.heap.size+1,1,none⟩ (.slice none 0 0)).setCell ⟨w.heap.size+1,2,none⟩ (.slice none 0 0)).setCell ⟨w.heap.size+1,3,none⟩ (.int .i64 a))->CdP C d (.ok ⟨2,.nil,.nil,a⟩ l.tail) w (.returned (cdV 2 none 0 0 none 0 0 a)) w9 from λw9 h9=>
  zf2 HL.out (by unfold in8;omega) Hh (by omega) GI (HF.any.trans hf) w9 h9)
 clear Jw GI hf;go_wp2_with fail;exact bodyPost_ret (v:=cdV 2 none 0 0 none 0 0 a) (by simp[results,Tryz.results315,go_sem,cdV,q0,q1,q2,q3,N0]) rfl (HE _ rfl)
theorem znp {C:Pcx}{w w5 w7:World}{rb d L:Nat}{k a:Int}{x y:Ex}{A A2:Option Addr}{c1 c2:Nat}{r:List Tk}(hL:C.P < w.heap.size/\C.TB < w.heap.size/\C.W0.heap.size<=w.heap.size)(h8:in8 k)(Hh:in64 a)(Gn:w.heap.size<=rb)(vM:rb < L)(N1:w.heap.size<=L)
  (hx:ExV w5 L (exV x.k x.nm x.n A x.args.len c1 x.at_) x) (Vc:Fr C.T w5 w7) (hy:ExV w7 w5.heap.size (exV y.k y.nm y.n A2 y.args.len c2 y.at_) y) (vN:L<=w5.heap.size)
  (hp:PaAt C w7 r d) (hf:Fr C.T w w7) (w9:World)
  (h9:w9=((((w7.setCell ⟨rb,0,none⟩ (.int .u8 k)).setCell ⟨rb,1,none⟩ (.slice (some ⟨w7.heap.size,0,none⟩) 2 2)).setCell ⟨rb,2,none⟩ (.slice none 0 0)).setCell ⟨rb,3,none⟩ (.int .i64 a)).alloc (.cells #[.int .u8 x.k,.string x.nm,.int .i64 x.n,.slice A x.args.len c1,.int .i64 x.at_,.int .u8 y.k,.string y.nm,.int .i64 y.n,.slice A2 y.args.len c2,.int .i64 y.at_] 175)):
  CdP C d (.ok ⟨k,x.cons (y.cons .nil),.nil,a⟩ r) w (.returned (cdV k (some ⟨w7.heap.size,0,none⟩) 2 2 none 0 0 a)) w9:=by
 obtain⟨w8,GS⟩:=nmq (((((w7.setCell ⟨rb,0,none⟩ (.int .u8 k)).setCell ⟨rb,1,none⟩ (.slice (some ⟨w7.heap.size,0,none⟩) 2 2)).setCell ⟨rb,2,none⟩ (.slice none 0 0)).setCell ⟨rb,3,none⟩ (.int .i64 a)));rw[<-GS]at h9;have GF:Fr (λb=>b=rb) w7 w8:=by rw[GS];exact Fr.own (Fr.own (Fr.own (Fr.own (Fr.refl _ _) _ _) _ _) _ _) _ _
 have hz:w8.heap.size=w7.heap.size:=by rw[GS];simp
 have Gk:Fr (λb=>b=rb) w7 w9:=by rw[h9];exact GF.alloc _
 have Po:w9.heap.size=w7.heap.size+1:=by rw[h9];simp[hz]
 have j8:=Vc.size;have Mx:=hf.size;obtain⟨x1,x2,x3,Ax,cx,ex,Ju⟩:=hx;obtain⟨y1,y2,y3,Ay,cy,ey,U4⟩:=hy;simp only[exV,Value.agg.injEq,Array.mk.injEq,List.cons.injEq,Value.slice.injEq,true_and,and_true]at ex ey;obtain⟨rfl,rfl⟩:=ex;obtain⟨rfl,rfl⟩:=ey;have hX:∀b,New L w5 b->(b < w5.heap.size/\¬(b=C.P\/b=rb))/\New w.heap.size w9 b:=λb hb=>by
  have h1:L<=b:=hb.1;have h2:b < w5.heap.size:=hb.2;exact⟨⟨h2,by omega⟩,by omega,by omega⟩
 have hY:∀b,New w5.heap.size w7 b->(b < w7.heap.size/\¬b=rb)/\New w.heap.size w9 b:=λb hb=>by
  have h1:w5.heap.size<=b:=hb.1;have h2:b < w7.heap.size:=hb.2;exact⟨⟨h2,by omega⟩,by omega,by omega⟩
 have X3:Fr (λb=>b=C.P\/b=rb) w5 w9:=(Vc.mono λi _ h=>Or.inl h).trans (Gk.mono λi _ h=>Or.inr h);refine⟨_,rfl,⟨h8,Hh,some ⟨w7.heap.size,0,none⟩,2,none,0,rfl,⟨lrq 2,sl2,λ_=>⟨w7.heap.size,0,rfl,?_⟩⟩,⟨lrq 0,sl0,λh=>absurd h (by exact Nat.lt_irrefl 0)⟩⟩,hp.fr Gk (λe=>?_) (λe=>?_) (λi hi e=>?_),?_⟩
 ·refine zjd (by rw[h9];exact Bk.new_at _ _ _ hz) ⟨by omega,by omega⟩ ⟨x1,x2,x3⟩ ⟨y1,y2,y3⟩ (Ju.imp λ_ _ h=>?_) (U4.imp λ_ _ h=>?_)
  ·exact ExR.more (λb hb=>(hX b hb).2) (ExR.keep (X3.same λb hb=>(hX b hb).1) h)
  ·exact ExR.more (λb hb=>(hY b hb).2) (ExR.keep (Gk.same λb hb=>(hY b hb).1) h)
 ·have e:C.P=rb:=e;omega
 ·have e:C.TB=rb:=e;omega
 ·have e:i=rb:=e;omega
 ·rw[h9,GS];exact(Fr.high (Fr.high (Fr.high (Fr.high hf Gn _ _) Gn _ _) Gn _ _) Gn _ _).alloc _
theorem zol {n:Nat}{l r:List Tk}{x:Ex}(h:zaL n l= .ok x r):cmpP n l=if isP cmpS r < 0 then .err 90 (hdT r).at_ else(zaL n r.tail).then λy q=> .ok ⟨3+isP cmpS r,x.cons (y.cons .nil),.nil,(hdT r).at_⟩ q:=by
 unfold cmpP;rw[h];rfl
theorem zom {n:Nat}{l:List Tk}{e a:Int}(h:zaL n l= .err e a):cmpP n l= .err e a:=by
 unfold cmpP;rw[h];rfl
theorem znq (C:Pcx)(n:Nat)(l:List Tk)(d:Nat)(w:World)(Gd:d+n=24)(hk:C.Ok)(h:PaAt C w l d)(Gz:isP notS l < 0):
  Calls Tryz.prog 315 #[.pointer (some ⟨C.P,0,none⟩)] w (CdP C d (notP n l) w):=by
 rw[zok Gz];have hL:=h.lts;obtain⟨j,cap,m,GK,Jq,hl,Ln,FS,hb,p0,p1,f0,f1,t0,t1,t2,ltP,ltT⟩:=h.cells;have KG:m<=9223372036854775807:=by omega
 have JP:(0:Int) < (m:Int):=by omega
 obtain⟨a,ha⟩:∃a:Int,a=(hdT l).at_ :=⟨_,rfl⟩;rw[<-ha]at t2;obtain⟨w1,Hc⟩:=nmq (((w.alloc (.cells #[.pointer (some ⟨C.P,0,none⟩)] 162)).alloc (.cells #[.int .u8 0,.slice none 0 0,.slice none 0 0,.int .i64 0] 179)).alloc (.cells #[.int .i64 a] 3));obtain⟨Hg,Hy,Gx,hbx,JT⟩:=zbZ C a w w1 Hc;have h1:=h.fr Hg id id λ_ _=>id;have h2:=h1.alloc (.cells #[.string ⟨#[33]⟩,.string ⟨#[91]⟩,.string ⟨#[116,114,117,101]⟩,.string ⟨#[102,97,108,115,101]⟩] 9);have He:Fr NoT w1 (w1.alloc (.cells #[.string ⟨#[33]⟩,.string ⟨#[91]⟩,.string ⟨#[116,114,117,101]⟩,.string ⟨#[102,97,108,115,101]⟩] 9)):=(Fr.refl NoT w1).alloc _;have G4:=zc4 C notS l d w1 h2 4 rfl (by decide);unfold strA at G4;obtain⟨k,Kz⟩:=nmq (isP notS l);rw[<-Kz]at G4 Gz;unfold notS at G4;simp only[List.map_cons,List.map_nil]at G4;rw[Hy]at G4;have e0:(k==0)=false:=by simp;omega
 have e1:(k==1)=false:=by simp;omega
 have e2:(k==2)=false:=by simp;omega
 have e3:(k==3)=false:=by simp;omega
 have hex:=zbY C n l d _ Gd hk h2;have HF:=hdq (Hg.trans He);have Mw:=hdq (Gx.fr0 He);have JC:=hdq (hbx.fr0 He);have Ht:(w1.alloc (.cells #[.string ⟨#[33]⟩,.string ⟨#[91]⟩,.string ⟨#[116,114,117,101]⟩,.string ⟨#[102,97,108,115,101]⟩] 9)).heap.size =w.heap.size+4:=by simp[Hy]
 rw[Hc]at G4 hex HF Mw JC Ht;have Lz:=hdq G4;have j9:=hdq hex;have HL:=hdq hL;have HK:=hdq hk;have HZ:=hdq Ht;obtain⟨R,hR⟩:=nmq (cmpP n l);rw[<-hR];have HR:=hdq hR;clear G4 hex Hc Hg Hy Gx hbx JT h1 h2 He h hk Gz Kz hb hl GK ha hL Ht hR;go_enter Tryz.func315,Tryz.ntmps315;go_wp2_with fail;refine Lz.mono ?_;rintro _ wy ⟨rfl,rfl⟩;go_wp2_with fail;refine j9.mono ?_;intro e w5 hE;rcases hE.ways with⟨x,r,A,c1,hx,rfl,hv,hp,hf⟩|⟨c,e,hx,rfl,hf⟩;rotate_left
 ·go_wp2_with fail;exact⟨rfl,by rw[HR.out,zom hx];exact⟨rfl,HF.any.trans hf⟩⟩
 rw[HZ.out]at hv;have GA:=HR.trans (zol hx);have PV:=Mw.fr hf (λe=>by have e:w.heap.size=C.P:=e;have:=HL.out;omega);have S1:=JC.fr hf (λe=>by have e:w.heap.size+1=C.P:=e;have:=HL.out;omega);have Rc:=hf.size;rw[HZ.out]at Rc;obtain⟨w6,Fx⟩:=nmq (w5.alloc (.cells #[.int .u8 x.k,.string x.nm,.int .i64 x.n,.slice A x.args.len c1,.int .i64 x.at_] 175));have Gt:Fr NoT w5 w6:=by rw[Fx];exact(Fr.refl _ _).alloc _
 have S2:Bk w6 w5.heap.size 175 #[.int .u8 x.k,.string x.nm,.int .i64 x.n,.slice A x.args.len c1,.int .i64 x.at_]:=by rw[Fx];exact Bk.new _ _ _
 have X4:w6.heap.size=w5.heap.size+1:=by rw[Fx];simp
 have N2:=hp.fr Gt id id λ_ _=>id;have h7:=N2.alloc (.cells #[.string ⟨#[60]⟩,.string ⟨#[60,61]⟩,.string ⟨#[62]⟩,.string ⟨#[62,61]⟩,.string ⟨#[61,61]⟩,.string ⟨#[33,61]⟩] 9);have Hp:Fr NoT w6 (w6.alloc (.cells #[.string ⟨#[60]⟩,.string ⟨#[60,61]⟩,.string ⟨#[62]⟩,.string ⟨#[62,61]⟩,.string ⟨#[61,61]⟩,.string ⟨#[33,61]⟩] 9)):=(Fr.refl _ _).alloc _;have Rh:=zc4 C cmpS r d w6 h7 6 rfl (by decide);unfold strA at Rh;obtain⟨q,Uu⟩:=nmq (isP cmpS r);rw[<-Uu]at Rh GA;unfold cmpS at Rh;simp only[List.map_cons,List.map_nil]at Rh;rw[X4]at Rh;have S3:=PV.cell 0;have ka:=PV.lt;have FB:=zca C 90 r d _ h7;unfold ErrP zae pP at FB;have Hh:=zbc HK.out hp;have XJ:=hdq Hh;have X5:=(HF.any.trans hf).trans (Gt.any.trans Hp.any);have GV:=hdq X5;have Q4:=hdq Fx;rw[Fx]at Rh FB;have gc:=hdq Rh;have ke:=hdq FB;have Sd:=hdq Uu;have GB:=hdq GA;have kf:=hdq hv;have X6:=hdq ((PV.fr0 Gt).fr0 Hp);have X7:=hdq ((S1.fr0 Gt).fr0 Hp);have X8:=hdq (S2.fr0 Hp);have H7:=hdq h7;have X9:=hdq (Gt.trans Hp);simp only[List.getElem?_toArray,List.getElem?_cons_zero]at S3;have kg:w5.cell? ⟨w.heap.size,0,none⟩=some (.pointer (some ⟨C.P,0,none⟩)):=S3;by_cases FE:q < 0
 ·clear hx hv hp hf GA PV S1 Gt S2 N2 h7 Hp Rh Uu FB Hh X5 Fx S3;go_wp2_with fail;refine gc.mono ?_;rintro _ wz ⟨rfl,rfl⟩;go_wp2_with fail;refine ke.mono ?_;rintro _ w8 ⟨rfl,GF⟩;go_wp2_with fail;rw[<-Q4.out]at GF;refine⟨rfl,?_⟩;rw[GB.out,if_pos FE];exact⟨rfl,GV.trans GF⟩
 ·have Fz:0<=q:=by omega
  have Js:=zbk C r d _ HK.out h7 (λht=>by
   have:=(zcF (signs:=cmpS) (l:=r) (by rw[<-Uu];exact Fz)).1;rw[ht.1]at this;simp[cmpS]at this)
  unfold zdQ tkV pP at Js;rw[Fx]at Js;have Mg:=hdq Js;have gd:q<=6:=by
   have:=zhj cmpS r;rw[<-Uu]at this;have e:cmpS.length=6:=rfl;omega
  clear hx hv hp hf GA PV S1 Gt S2 N2 h7 Hp Rh Uu FB Hh X5 Fx S3 Js;go_wp2_with fail;refine gc.mono ?_;rintro _ wz ⟨rfl,rfl⟩;go_wp2_with fail;refine Mg.mono ?_;rintro _ w8 ⟨rfl,NH,GF⟩;rw[<-Q4.out]at GF;have S4:¬C.T w5.heap.size:=λe=>by have e:w5.heap.size=C.P:=e;have:=HL.out;omega
  have S5:¬C.T w.heap.size:=λe=>by have e:w.heap.size=C.P:=e;have:=HL.out;omega
  have S6:¬C.T (w.heap.size+1):=λe=>by have e:w.heap.size+1=C.P:=e;have:=HL.out;omega
  have Ky:=hdq (aiq S4 (aiq S5 S6));have Ri:=X6.fr GF S5;have Vd:=X7.fr GF S6;have My:=X8.fr GF S4;have Ve:=Ri.cell 0;have x0:=My.cell 0;have x1:=My.cell 1;have x2:=My.cell 2;have x3:=My.cell 3;have x4:=My.cell 4;simp only[getsL]at Ve x0 x1 x2 x3 x4;have Gq:=Ri.lt;have MZ:=My.lt;have LN:=NH.fr (T:=NoT) (Fr.drew (Fr.refl _ _)) id id λ_ _=>id;have kh:=hdq (zbY C n r.tail d _ Gd HK.out LN);have Ya:=hdq Ri;have Yb:=hdq Vd;have Yc:=hdq My;have Vf:=hdq ((X9.any.trans GF).drew);have QY:=hdq (GV.trans GF);clear NH GF Ri Vd My LN S4 S5 S6;go_wp2_with fail
  go_region_held2 (λW'=>W'.cell? ⟨w.heap.size,0,none⟩=some (.pointer (some ⟨C.P,0,none⟩))/\W'.cell? ⟨w5.heap.size,0,none⟩=some (.int .u8 x.k)/\W'.cell? ⟨w5.heap.size,1,none⟩=some (.string x.nm)/\W'.cell? ⟨w5.heap.size,2,none⟩=some (.int .i64 x.n)/\W'.cell? ⟨w5.heap.size,3,none⟩=some (.slice A x.args.len c1)/\W'.cell? ⟨w5.heap.size,4,none⟩=some (.int .i64 x.at_))
   (first
    |(refine⟨?_,?_,?_,?_,?_,?_⟩<;>with_reducible assumption)
    |(with_reducible refine⟨(Fr.cell (T:=λb=>b=w.heap.size+1) (w:=w10) (Fr.alloc (Fr.own (Fr.own (Fr.own (Fr.own (Fr.refl _ _) _ _) _ _) _ _) _ _) _) Si Kf).trans Hi,(Fr.cell (T:=λb=>b=w.heap.size+1) (w:=w10) (Fr.alloc (Fr.own (Fr.own (Fr.own (Fr.own (Fr.refl _ _) _ _) _ _) _ _) _ _) _) JJ Jr).trans y0,(Fr.cell (T:=λb=>b=w.heap.size+1) (w:=w10) (Fr.alloc (Fr.own (Fr.own (Fr.own (Fr.own (Fr.refl _ _) _ _) _ _) _ _) _ _) _) JJ Jr).trans y1,(Fr.cell (T:=λb=>b=w.heap.size+1) (w:=w10) (Fr.alloc (Fr.own (Fr.own (Fr.own (Fr.own (Fr.refl _ _) _ _) _ _) _ _) _ _) _) JJ Jr).trans y2,(Fr.cell (T:=λb=>b=w.heap.size+1) (w:=w10) (Fr.alloc (Fr.own (Fr.own (Fr.own (Fr.own (Fr.refl _ _) _ _) _ _) _ _) _ _) _) JJ Jr).trans y3,(Fr.cell (T:=λb=>b=w.heap.size+1) (w:=w10) (Fr.alloc (Fr.own (Fr.own (Fr.own (Fr.own (Fr.refl _ _) _ _) _ _) _ _) _ _) _) JJ Jr).trans y4⟩)
    |(with_reducible refine⟨(Fr.cell (T:=NoT) (w:=w10) (Fr.alloc (Fr.refl _ _) _) Si id).trans Hi,(Fr.cell (T:=NoT) (w:=w10) (Fr.alloc (Fr.refl _ _) _) JJ id).trans y0,(Fr.cell (T:=NoT) (w:=w10) (Fr.alloc (Fr.refl _ _) _) JJ id).trans y1,(Fr.cell (T:=NoT) (w:=w10) (Fr.alloc (Fr.refl _ _) _) JJ id).trans y2,(Fr.cell (T:=NoT) (w:=w10) (Fr.alloc (Fr.refl _ _) _) JJ id).trans y3,(Fr.cell (T:=NoT) (w:=w10) (Fr.alloc (Fr.refl _ _) _) JJ id).trans y4⟩)
    |(with_reducible refine⟨(Fr.cell (T:=NoT) (w:=w8) (Fr.drew (Fr.refl _ _)) Gq id).trans Ve,(Fr.cell (T:=NoT) (w:=w8) (Fr.drew (Fr.refl _ _)) MZ id).trans x0,(Fr.cell (T:=NoT) (w:=w8) (Fr.drew (Fr.refl _ _)) MZ id).trans x1,(Fr.cell (T:=NoT) (w:=w8) (Fr.drew (Fr.refl _ _)) MZ id).trans x2,(Fr.cell (T:=NoT) (w:=w8) (Fr.drew (Fr.refl _ _)) MZ id).trans x3,(Fr.cell (T:=NoT) (w:=w8) (Fr.drew (Fr.refl _ _)) MZ id).trans x4⟩))
   (first
    |(go_at_call 247
      with_reducible refine kh.out.mono ?_
      intro e w10 hE;rcases hE.ways with⟨y,r2,A2,c2,hy,rfl,hv,hp,hf⟩|⟨c,e,hy,rfl,hf⟩;rotate_left
      ·have Ja:CdP C d R w (.panicked [{v:= .iface 161 (.agg #[.int .i64 c,.int .i64 e]),recovered:=false}]) w10:=by
        rw[GB.out,if_neg (Int.not_lt.2 Fz),hy];exact⟨rfl,QY.drew.trans hf⟩
       exact⟨rfl,Ja⟩
      have G6:=(Fr.drew (Fr.refl C.T w8)).trans hf;have Fm:=Yb.fr G6 Ky.2.2;have q0:=Fm.cell 0;have q1:=Fm.cell 1;have q2:=Fm.cell 2;have q3:=Fm.cell 3;have g0:=Fm.frozen 0;have g1:=Fm.frozen 1;have g2:=Fm.frozen 2;have g3:=Fm.frozen 3;have PW:=Ya.fr G6 Ky.2.1;have KW:=Yc.fr G6 Ky.1;have Hi:=PW.cell 0;have y0:=KW.cell 0;have y1:=KW.cell 1;have y2:=KW.cell 2;have y3:=KW.cell 3;have y4:=KW.cell 4;have Si:=PW.lt;have JJ:=KW.lt;have Vg:=Fm.lt;have Kf:¬w.heap.size=w.heap.size+1:=by omega
      have Jr:¬w5.heap.size=w.heap.size+1:=by omega
      simp only[getsL]at q0 q1 q2 q3 Hi y0 y1 y2 y3 y4;have Vh:R= .ok ⟨3+q,x.cons (y.cons .nil),.nil,(hdT r).at_⟩ r2:=by rw[GB.out,if_neg (Int.not_lt.2 Fz),hy];rfl
      have Vi:=hdq Vh;have HV:=hdq hv;have HP:=hdq hp;have ki:=hdq (QY.drew.trans hf);have Hs:=hdq ((Vf.out).trans hf);have WY:w5.heap.size<=w8.heap.size:=Vf.size;have Uv:=hdq WY;clear Vh hy hv hp hf G6 Fm PW KW WY))
  all_goals
   go_wp2_with fail;have GL:IntKind.u8.wrap (3+IntKind.u8.wrap q)=3+q:=by simp[IntKind.wrap,IntKind.signed,IntKind.bits];omega
   rw[GL];obtain⟨k9,Uw⟩:=nmq (3+q);rw[<-Uw]at Vi ⊢;have ko:in8 k9:=by unfold in8;omega
   refine bodyPost_ret (v:=cdV k9 (some ⟨w10.heap.size,0,none⟩) 2 2 none 0 0 (hdT r).at_) (by simp[results,Tryz.results315,go_sem,cdV,q0,q1,q2,q3,Vg]) rfl ?_;rw[Vi.out];refine znp (w5:=w5) (L:=w.heap.size+4) HL.out ko XJ.out (by omega) (by omega) (by omega) kf.out Hs.out ?_ Rc HP.out ki.out _ rfl;have hv:=HV.out;exact hv.low Uv.out
theorem zhs (C:Pcx)(n:Nat)(hs:∀m,n=m+1->NotC C m)(l:List Tk)(d:Nat)(w:World)(Gd:d+n=24)(hk:C.Ok)(h:PaAt C w l d):Calls Tryz.prog 315 #[.pointer (some ⟨C.P,0,none⟩)] w (CdP C d (notP n l) w):=by
 have hle:=zhj notS l;have e:notS.length=4:=rfl;by_cases h0:isP notS l < 0
 ·exact znq C n l d w Gd hk h h0
 by_cases h1:isP notS l=0
 ·exact zlx C n hs l d w Gd hk h h1
 by_cases h2:isP notS l=1
 ·exact zjp C n hs l d w Gd hk h h2
 by_cases h3:isP notS l=2
 ·exact not_true C n l d w hk h h3
 ·have h4:isP notS l≠4:=λh=>by
   have:=(zcr (j:=4) h).1;simp[notS]at this
  exact zjq C n l d w hk h (by omega)
theorem zly (C:Pcx)(hk:C.Ok):∀n,NotC C n:=by
 intro n
 induction n with
 |zero=>exact λl d w Gd h=>zhs C 0 (λm h=>absurd h (by omega)) l d w Gd hk h
 |succ n ih=>exact λl d w Gd h=>zhs C (n+1) (λm h=>(show n=m by omega)▸ih) l d w Gd hk h
theorem zjr (C:Pcx)(n:Nat)(l:List Tk)(d:Nat)(w:World)(Gd:d+n=24)(hk:C.Ok)(h:PaAt C w l d):Calls Tryz.prog 310 #[.pointer (some ⟨C.P,0,none⟩)] w (CdP C d (zdX n l) w):=zhr C n (zly C hk n) l d w Gd hk h
