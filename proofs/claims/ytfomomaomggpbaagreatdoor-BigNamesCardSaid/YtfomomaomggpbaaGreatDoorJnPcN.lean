/-
  parse: not: a bang, brackets, true and false. Printed by wip/gen_pcnot2.py.
-/
import Derived.Test.YtfomomaomggpbaaGreatDoorJgPc
set_option linter.unusedVariables false
set_option linter.unusedSimpArgs false
set_option maxHeartbeats 3200000
set_option maxRecDepth 100000
namespace Go.Proofs.YtfomomaomggpbaaGreatDoor
open Go.RowKit Go.Shelf

theorem idxFrom_get (x:ByteArray):∀(zs:List ByteArray) (i:Nat),0≤Lib.idxFromS zs x i→∃j:Nat,Lib.idxFromS zs x i=((i+j:Nat):Int)∧zs[j]?=some x
 | [],i,h=>by simp[Lib.idxFromS]at h
 |z::zs,i,h=>by
  unfold Lib.idxFromS at h ⊢
  split
  ·rename_i hz
   exact⟨0,rfl,by simp[hz]⟩
  ·rename_i hz
   rw[if_neg hz]at h
   obtain⟨j,h1,h2⟩:=idxFrom_get x zs (i+1) h
   exact⟨j+1,by rw[h1];congr 1;omega,by simpa using h2⟩
theorem isP_get {signs:List (List UInt8)} {l:List Tk} {j:Nat} (h:isP signs l=(j:Int)):signs[j]?=some (hdT l).text ∧(hdT l).kind ≠2:=by
 have h0:0≤isP signs l:=by omega
 have h2:=isP_text h0
 refine⟨?_,h2.2⟩
 unfold isP at h
 rw[if_neg h2.2]at h
 obtain⟨i,h3,h4⟩:=idxFrom_get (txt (hdT l)) (signs.map fun s=>(⟨s.toArray⟩:ByteArray)) 0 (by show 0≤Lib.idxOfS _ _;omega)
 have h5:i=j:=by
  have h3:Lib.idxOfS _ _=((0+i:Nat):Int):=h3
  omega
 subst h5
 rw[List.getElem?_map]at h4
 cases hs:signs[i]? with
 |none=>rw[hs]at h4;cases h4
 |some s=>
  rw[hs]at h4
  have:=mk_inj (Option.some.inj h4)
  rw[this]
theorem mayB_of {s:List UInt8} {l:List Tk} (h:(hdT l).text =s) (hk:(hdT l).kind ≠2):mayB s l=true:=by
 unfold mayB isP
 rw[if_neg hk]
 simp[Lib.idxOfS,Lib.idxFromS,txt,h]
theorem is4_any (C:Pcx) (signs:List (List UInt8)) (l:List Tk) (d:Nat) (w:World) (h:PaAt C (w.alloc (.cells (strA signs) 9)) l d) (n:Nat) (hn:n=signs.length) (hsl:signs.length≤100):
  Calls Tryz.prog 200 #[.pointer (some ⟨C.P,0,none⟩),.slice (some ⟨w.heap.size,0,none⟩) n n] (w.alloc (.cells (strA signs) 9)) fun e w'=>e= .returned (.int .i64 (isP signs l))∧w.alloc (.cells (strA signs) 9)=w':=by
 subst hn
 exact is_any C signs l d w.heap.size 0 _ _ h (by omega) fun j hj=>by
  rw[Nat.zero_add,(Bk.new w _ _).cell j];simp[strA,hj]
theorem notP_b0 {l:List Tk} (h:isP notS l=0):notP 0 l= .err 91 (hdT l).at_ :=by unfold notP;rw[if_pos h]
theorem notP_b1 {n:Nat} {l:List Tk} {a:Int} (h:isP notS l=0) (ha:a=((hdT l).at_ :Int)):notP (n+1) l=notB n a l.tail:=by rw[ha];unfold notP;rw[if_pos h];rfl
theorem notP_k0 {l:List Tk} (h:isP notS l=1):notP 0 l= .err 91 (hdT l).at_ :=by unfold notP;rw[if_neg (by omega),if_pos h]
theorem notP_k1 {n:Nat} {l:List Tk} (h:isP notS l=1):notP (n+1) l=endC [93] n l.tail:=by unfold notP;rw[if_neg (by omega),if_pos h];rfl
theorem notP_t {n:Nat} {l:List Tk} (h:isP notS l=2):notP n l= .ok ⟨1,.nil,.nil,(hdT l).at_⟩ l.tail:=by
 cases n<;>(unfold notP;rw[if_neg (by omega),if_neg (by omega),if_pos (Or.inl h),h];rfl)
theorem notP_f {n:Nat} {l:List Tk} (h:isP notS l=3):notP n l= .ok ⟨2,.nil,.nil,(hdT l).at_⟩ l.tail:=by
 cases n<;>(unfold notP;rw[if_neg (by omega),if_neg (by omega),if_pos (Or.inr h),h];rfl)
theorem notP_c {n:Nat} {l:List Tk} (h:isP notS l < 0):notP n l=cmpP n l:=by
 cases n<;>(unfold notP;rw[if_neg (by omega),if_neg (by omega),if_neg (by omega)])
theorem not_boxes (C:Pcx) (a:Int) (w w1:World) (hw:w1=((w.alloc (.cells #[.pointer (some ⟨C.P,0,none⟩)] 162)).alloc (.cells #[.int .u8 0,.slice none 0 0,.slice none 0 0,.int .i64 0] 179)).alloc (.cells #[.int .i64 a] 3)):
  Fr NoT w w1∧w1.heap.size=w.heap.size+3∧Bk w1 w.heap.size 162 #[.pointer (some ⟨C.P,0,none⟩)]∧Bk w1 (w.heap.size+1) 179 #[.int .u8 0,.slice none 0 0,.slice none 0 0,.int .i64 0]∧Bk w1 (w.heap.size+2) 3 #[.int .i64 a]:=by
 subst hw
 exact⟨(((Fr.refl _ _).alloc _).alloc _).alloc _,by simp,((Bk.new _ _ _).alloc _).alloc _,(Bk.new_at _ _ _ (by simp)).alloc _,Bk.new_at _ _ _ (by simp)⟩
theorem withinC_back {C:Pcx} {w w1 w2:World} {rb d L:Nat} {x:Cn} {r:List Tk} (hk:C.Ok) (hL:C.P < w.heap.size∧C.TB < w.heap.size∧C.W0.heap.size≤w.heap.size) (h1:Fr NoT w w1) (hrb:w.heap.size≤rb) (hLL:w.heap.size≤L)
  (hra:ResC rb L w2 x) (hpa:PaAt C w2 r (d+1)) (hf:Fr (PT C rb) w1 w2):
  ResC rb w.heap.size (w2.setCell ⟨C.P,1,none⟩ (.int .i64 d)) x∧PaAt C (w2.setCell ⟨C.P,1,none⟩ (.int .i64 d)) r d∧Fr C.T w (w2.setCell ⟨C.P,1,none⟩ (.int .i64 d)):=by
 have hfs:Fr C.T w2 (w2.setCell ⟨C.P,1,none⟩ (.int .i64 d)):=(Fr.refl C.T w2).setCell (p:=⟨C.P,1,none⟩) (Or.inl C.Tp) _
 refine⟨(hra.fr hfs (by omega) (by omega)).low hLL,hpa.deep hk (d':=d) (v:=(d:Int)) rfl,((h1.any.trans hf).trans (PT.l hfs)).mono fun i hi e=>?_⟩
 rcases e with e|e
 ·exact e
 ·omega
-- a bang
theorem not_bang (C:Pcx) (n:Nat) (hs:∀m,n=m+1→NotC C m) (l:List Tk) (d:Nat) (w:World) (hdn:d+n=24) (hk:C.Ok) (h:PaAt C w l d) (hk0:isP notS l=0):
  Calls Tryz.prog 315 #[.pointer (some ⟨C.P,0,none⟩)] w (CdP C d (notP n l) w):=by
 have hmf:= @makeF Tryz.prog
 have hL:=h.lts
 have hat:=in64_at hk h
 obtain⟨j,cap,m,hm0,hm1,hl,hmc,hcm,hb,p0,p1,f0,f1,t0,t1,t2,ltP,ltT⟩:=h.cells
 have hm2:m≤9223372036854775807:=by omega
 have hm3:(0:Int) < (m:Int):=by omega
 obtain⟨a,ha⟩:∃a:Int,a=(hdT l).at_ :=⟨_,rfl⟩
 rw[←ha]at t2 hat
 have HA:=hdq ha
 obtain⟨w1,hw1⟩:=nmq (((w.alloc (.cells #[.pointer (some ⟨C.P,0,none⟩)] 162)).alloc (.cells #[.int .u8 0,.slice none 0 0,.slice none 0 0,.int .i64 0] 179)).alloc (.cells #[.int .i64 a] 3))
 obtain⟨hf1,hz1,hpx,hbx,hax⟩:=not_boxes C a w w1 hw1
 have h1:=h.fr hf1 id id fun _ _=>id
 have HF1:=hdq hf1
 have HW1:=hdq hw1
 have HK:=hdq hk
 have HL:=hdq hL
 have hent:=enters_of Tryz.func316 (by kernel_rfl) rfl
 have h2:=h1.alloc (.cells #[.string ⟨#[33]⟩,.string ⟨#[91]⟩,.string ⟨#[116,114,117,101]⟩,.string ⟨#[102,97,108,115,101]⟩] 9)
 have hiy:=is4_any C notS l d w1 h2 4 rfl (by decide)
 have hm:mayB [33] l=true:=mayB_of (Option.some.inj (isP_get (j:=0) hk0).1).symm (isP_get (j:=0) hk0).2
 rw[hk0]at hiy
 unfold strA notS at hiy
 simp only[List.map_cons,List.map_nil]at hiy
 have hf2:Fr NoT w1 (w1.alloc (.cells #[.string ⟨#[33]⟩,.string ⟨#[91]⟩,.string ⟨#[116,114,117,101]⟩,.string ⟨#[102,97,108,115,101]⟩] 9)):=(Fr.refl NoT w1).alloc _
 rw[hz1]at hiy
 rw[hw1]at hiy
 have HIY:=hdq hiy
 match n,hs,hdn with
 |0,hs,hdn=>
  obtain rfl:d=24:=by omega
  have hw:=within_deep C [33] (.func (.func 316) #[] #[.pointer (some ⟨w.heap.size,0,none⟩),.pointer (some ⟨w.heap.size+1+1,0,none⟩),.pointer (some ⟨w.heap.size+1,0,none⟩)]) l _ h2 hm
  rw[notP_b0 hk0]
  rw[hw1]at hw
  unfold ErrP wrongE pP at hw
  have HW:=hdq hw
  have HF2:=hdq hf2
  clear hw hw1 hf1 hz1 hpx hbx hax h1 h2 h hs hk hent hm hk0 hb hl hm0 ha hf2 hat hL hiy
  go_enter Tryz.func315,Tryz.ntmps315
  go_wp2_with fail
  refine HIY.out.mono ?_
  rintro _ wy ⟨rfl,rfl⟩
  go_wp2_with fail
  refine HW.out.mono ?_
  rintro _ w3 ⟨rfl,hf⟩
  go_wp2_with fail
  have hf2:=HF2.out
  rw[HW1.out]at hf2
  exact⟨rfl,rfl,((by rw[←HW1.out];exact HF1.out.any:Fr C.T w _).trans hf2.any).trans hf⟩
 |n+1,hs,hdn=>
  have hsn:=hs n rfl
  have hbr:∀W,PaAt C W l.tail (d+1)→Fr C.T (w1.alloc (.cells #[.string ⟨#[33]⟩,.string ⟨#[91]⟩,.string ⟨#[116,114,117,101]⟩,.string ⟨#[102,97,108,115,101]⟩] 9)) W→Calls Tryz.prog 316 #[.pointer (some ⟨w.heap.size,0,none⟩),.pointer (some ⟨w.heap.size+2,0,none⟩),.pointer (some ⟨w.heap.size+1,0,none⟩)] W (ParC C (w.heap.size+1) (d+1) (notB n a l.tail) W):=fun W hP hF=>
   notB_any C n hsn l.tail (d+1) w.heap.size (w.heap.size+2) (w.heap.size+1) a W hat (by omega) hk hP ((hpx.fr0 hf2).fr hF (fun e=>by have e:w.heap.size=C.P:=e;omega)) (by omega) ((hax.fr0 hf2).fr hF (fun e=>by have e:w.heap.size+2=C.P:=e;omega)) (by omega) (by omega) ((hbx.fr0 hf2).fr hF (fun e=>by have e:w.heap.size+1=C.P:=e;omega)) (by omega) (by omega) (by omega) (by omega)
  rw[notP_b1 hk0 HA.out]
  cases hr:notB n a l.tail with
  |err c e=>
   rw[hr]at hbr
   have hw:=within_bad C [33] 316 #[.pointer (some ⟨w.heap.size,0,none⟩),.pointer (some ⟨w.heap.size+1+1,0,none⟩),.pointer (some ⟨w.heap.size+1,0,none⟩)] l d _ c e (fun w2=>Fr (PT C (w.heap.size+1)) w1 w2) hk h2 (by decide) hm (by omega) hent (fun W hP hF=>(hbr W hP hF).mono fun e w2 hE=>⟨hE.1,(PT.l (hf2.any.trans hF)).trans hE.2⟩)
   rw[hw1]at hw
   unfold wrongE pP at hw
   have HW:=hdq hw
   clear hw hw1 hf1 hz1 hpx hbx hax h1 h2 h hs hk hent hm hk0 hb hl hm0 ha hf2 hat hL hbr hsn hiy
   go_enter Tryz.func315,Tryz.ntmps315
   go_wp2_with fail
   refine HIY.out.mono ?_
   rintro _ wy ⟨rfl,rfl⟩
   go_wp2_with fail
   refine HW.out.mono ?_
   rintro _ w3 ⟨rfl,hf⟩
   go_wp2_with fail
   rw[←HW1.out]at hf
   exact⟨rfl,rfl,bad_back HF1.out (by omega) hf⟩
  |ok x r=>
   rw[hr]at hbr
   have hw:=within_ok C [33] 316 #[.pointer (some ⟨w.heap.size,0,none⟩),.pointer (some ⟨w.heap.size+1+1,0,none⟩),.pointer (some ⟨w.heap.size+1,0,none⟩)] l d _ (fun w2=>ResC (w.heap.size+1) (w.heap.size+3) w2 x∧PaAt C w2 r (d+1)∧Fr (PT C (w.heap.size+1)) w1 w2) hk h2 (by decide) hm (by omega) hent (fun w2 h2=>⟨r,h2.2.1⟩)
    (fun W hP hF=>(hbr W hP hF).mono fun e w2 hE=>⟨hE.1,hE.2.1.low (by rw[←hz1];exact leq9 hf2.size hF.size),hE.2.2.1,(PT.l (hf2.any.trans hF)).trans hE.2.2.2⟩)
   rw[hw1]at hw
   unfold WithinP pP at hw
   have HW:=hdq hw
   clear hw hw1 hf1 hz1 hpx hbx hax h1 h2 h hs hk hent hm hk0 hb hl hm0 ha hf2 hat hL hbr hsn hiy
   go_enter Tryz.func315,Tryz.ntmps315
   go_wp2_with fail
   refine HIY.out.mono ?_
   rintro _ wy ⟨rfl,rfl⟩
   go_wp2_with fail
   refine HW.out.mono ?_
   rintro _ w3 ⟨rfl,w2,⟨hra,hpa,hf⟩,rfl⟩
   rw[←HW1.out]at hf
   obtain⟨⟨A,c,B,pc,hb3,hv3⟩,hpa3,hf3⟩:=withinC_back HK.out HL.out HF1.out (by omega) (by omega) hra hpa hf
   have q0:=hb3.cell 0
   have q1:=hb3.cell 1
   have q2:=hb3.cell 2
   have q3:=hb3.cell 3
   simp only[getsL]at q0 q1 q2 q3
   have HV:=hdq hv3
   have HP:=hdq hpa3
   have HF:=hdq hf3
   clear hra hpa hf hb3 hv3 hpa3 hf3
   go_wp2_with fail
   exact bodyPost_ret (v:=cdV x.k A x.args.len c B x.of_.len pc x.at_) (by simp[results,Tryz.results315,go_sem,cdV,q0,q1,q2,q3]) rfl ⟨_,rfl,HV.out,HP.out,HF.out⟩

-- brackets
theorem not_brack (C:Pcx) (n:Nat) (hs:∀m,n=m+1→NotC C m) (l:List Tk) (d:Nat) (w:World) (hdn:d+n=24) (hk:C.Ok) (h:PaAt C w l d) (hk0:isP notS l=1):
  Calls Tryz.prog 315 #[.pointer (some ⟨C.P,0,none⟩)] w (CdP C d (notP n l) w):=by
 have hmf:= @makeF Tryz.prog
 have hL:=h.lts
 have hat:=in64_at hk h
 obtain⟨j,cap,m,hm0,hm1,hl,hmc,hcm,hb,p0,p1,f0,f1,t0,t1,t2,ltP,ltT⟩:=h.cells
 have hm2:m≤9223372036854775807:=by omega
 have hm3:(0:Int) < (m:Int):=by omega
 obtain⟨a,ha⟩:∃a:Int,a=(hdT l).at_ :=⟨_,rfl⟩
 rw[←ha]at t2 hat
 have HA:=hdq ha
 obtain⟨w1,hw1⟩:=nmq (((w.alloc (.cells #[.pointer (some ⟨C.P,0,none⟩)] 162)).alloc (.cells #[.int .u8 0,.slice none 0 0,.slice none 0 0,.int .i64 0] 179)).alloc (.cells #[.int .i64 a] 3))
 obtain⟨hf1,hz1,hpx,hbx,hax⟩:=not_boxes C a w w1 hw1
 have h1:=h.fr hf1 id id fun _ _=>id
 have HF1:=hdq hf1
 have HW1:=hdq hw1
 have HK:=hdq hk
 have HL:=hdq hL
 have hent:=enters_of Tryz.func317 (by kernel_rfl) rfl
 have h2:=h1.alloc (.cells #[.string ⟨#[33]⟩,.string ⟨#[91]⟩,.string ⟨#[116,114,117,101]⟩,.string ⟨#[102,97,108,115,101]⟩] 9)
 have hiy:=is4_any C notS l d w1 h2 4 rfl (by decide)
 have hm:mayB [91] l=true:=mayB_of (Option.some.inj (isP_get (j:=1) hk0).1).symm (isP_get (j:=1) hk0).2
 rw[hk0]at hiy
 unfold strA notS at hiy
 simp only[List.map_cons,List.map_nil]at hiy
 have hf2:Fr NoT w1 (w1.alloc (.cells #[.string ⟨#[33]⟩,.string ⟨#[91]⟩,.string ⟨#[116,114,117,101]⟩,.string ⟨#[102,97,108,115,101]⟩] 9)):=(Fr.refl NoT w1).alloc _
 rw[hz1]at hiy
 rw[hw1]at hiy
 have HIY:=hdq hiy
 match n,hs,hdn with
 |0,hs,hdn=>
  obtain rfl:d=24:=by omega
  have hw:=within_deep C [91] (.func (.func 317) #[] #[.pointer (some ⟨w.heap.size,0,none⟩),.pointer (some ⟨w.heap.size+1,0,none⟩)]) l _ h2 hm
  rw[notP_k0 hk0]
  rw[hw1]at hw
  unfold ErrP wrongE pP at hw
  have HW:=hdq hw
  have HF2:=hdq hf2
  clear hw hw1 hf1 hz1 hpx hbx hax h1 h2 h hs hk hent hm hk0 hb hl hm0 ha hf2 hat hL hiy
  go_enter Tryz.func315,Tryz.ntmps315
  go_wp2_with fail
  refine HIY.out.mono ?_
  rintro _ wy ⟨rfl,rfl⟩
  go_wp2_with fail
  refine HW.out.mono ?_
  rintro _ w3 ⟨rfl,hf⟩
  go_wp2_with fail
  have hf2:=HF2.out
  rw[HW1.out]at hf2
  exact⟨rfl,rfl,((by rw[←HW1.out];exact HF1.out.any:Fr C.T w _).trans hf2.any).trans hf⟩
 |n+1,hs,hdn=>
  have hsn:=hs n rfl
  have hbr:∀W,PaAt C W l.tail (d+1)→Fr C.T (w1.alloc (.cells #[.string ⟨#[33]⟩,.string ⟨#[91]⟩,.string ⟨#[116,114,117,101]⟩,.string ⟨#[102,97,108,115,101]⟩] 9)) W→Calls Tryz.prog 317 #[.pointer (some ⟨w.heap.size,0,none⟩),.pointer (some ⟨w.heap.size+1,0,none⟩)] W (ParC C (w.heap.size+1) (d+1) (endC [93] n l.tail) W):=fun W hP hF=>
   brackC_any C n hsn l.tail (d+1) w.heap.size (w.heap.size+1) W (by omega) hk hP ((hpx.fr0 hf2).fr hF (fun e=>by have e:w.heap.size=C.P:=e;omega)) (by omega) ((hbx.fr0 hf2).fr hF (fun e=>by have e:w.heap.size+1=C.P:=e;omega)) (by omega) (by omega) (by omega) (by omega)
  rw[notP_k1 hk0]
  cases hr:endC [93] n l.tail with
  |err c e=>
   rw[hr]at hbr
   have hw:=within_bad C [91] 317 #[.pointer (some ⟨w.heap.size,0,none⟩),.pointer (some ⟨w.heap.size+1,0,none⟩)] l d _ c e (fun w2=>Fr (PT C (w.heap.size+1)) w1 w2) hk h2 (by decide) hm (by omega) hent (fun W hP hF=>(hbr W hP hF).mono fun e w2 hE=>⟨hE.1,(PT.l (hf2.any.trans hF)).trans hE.2⟩)
   rw[hw1]at hw
   unfold wrongE pP at hw
   have HW:=hdq hw
   clear hw hw1 hf1 hz1 hpx hbx hax h1 h2 h hs hk hent hm hk0 hb hl hm0 ha hf2 hat hL hbr hsn hiy
   go_enter Tryz.func315,Tryz.ntmps315
   go_wp2_with fail
   refine HIY.out.mono ?_
   rintro _ wy ⟨rfl,rfl⟩
   go_wp2_with fail
   refine HW.out.mono ?_
   rintro _ w3 ⟨rfl,hf⟩
   go_wp2_with fail
   rw[←HW1.out]at hf
   exact⟨rfl,rfl,bad_back HF1.out (by omega) hf⟩
  |ok x r=>
   rw[hr]at hbr
   have hw:=within_ok C [91] 317 #[.pointer (some ⟨w.heap.size,0,none⟩),.pointer (some ⟨w.heap.size+1,0,none⟩)] l d _ (fun w2=>ResC (w.heap.size+1) (w.heap.size+3) w2 x∧PaAt C w2 r (d+1)∧Fr (PT C (w.heap.size+1)) w1 w2) hk h2 (by decide) hm (by omega) hent (fun w2 h2=>⟨r,h2.2.1⟩)
    (fun W hP hF=>(hbr W hP hF).mono fun e w2 hE=>⟨hE.1,hE.2.1.low (by rw[←hz1];exact leq9 hf2.size hF.size),hE.2.2.1,(PT.l (hf2.any.trans hF)).trans hE.2.2.2⟩)
   rw[hw1]at hw
   unfold WithinP pP at hw
   have HW:=hdq hw
   clear hw hw1 hf1 hz1 hpx hbx hax h1 h2 h hs hk hent hm hk0 hb hl hm0 ha hf2 hat hL hbr hsn hiy
   go_enter Tryz.func315,Tryz.ntmps315
   go_wp2_with fail
   refine HIY.out.mono ?_
   rintro _ wy ⟨rfl,rfl⟩
   go_wp2_with fail
   refine HW.out.mono ?_
   rintro _ w3 ⟨rfl,w2,⟨hra,hpa,hf⟩,rfl⟩
   rw[←HW1.out]at hf
   obtain⟨⟨A,c,B,pc,hb3,hv3⟩,hpa3,hf3⟩:=withinC_back HK.out HL.out HF1.out (by omega) (by omega) hra hpa hf
   have q0:=hb3.cell 0
   have q1:=hb3.cell 1
   have q2:=hb3.cell 2
   have q3:=hb3.cell 3
   simp only[getsL]at q0 q1 q2 q3
   have HV:=hdq hv3
   have HP:=hdq hpa3
   have HF:=hdq hf3
   clear hra hpa hf hb3 hv3 hpa3 hf3
   go_wp2_with fail
   exact bodyPost_ret (v:=cdV x.k A x.args.len c B x.of_.len pc x.at_) (by simp[results,Tryz.results315,go_sem,cdV,q0,q1,q2,q3]) rfl ⟨_,rfl,HV.out,HP.out,HF.out⟩

theorem cleaf_fin {C:Pcx} {w w7:World} {rb d:Nat} {k a:Int} {r:List Tk} (hL:C.P < w.heap.size∧C.TB < w.heap.size∧C.W0.heap.size≤w.heap.size) (h8:in8 k) (hat:in64 a) (hrb:w.heap.size≤rb)
  (hp:PaAt C w7 r d) (hf:Fr C.T w w7) (w9:World)
  (h9:w9=((((w7.setCell ⟨rb,0,none⟩ (.int .u8 k)).setCell ⟨rb,1,none⟩ (.slice none 0 0)).setCell ⟨rb,2,none⟩ (.slice none 0 0)).setCell ⟨rb,3,none⟩ (.int .i64 a))):
  CdP C d (.ok ⟨k,.nil,.nil,a⟩ r) w (.returned (cdV k none 0 0 none 0 0 a)) w9:=by
 have hf9:Fr (fun b=>b=rb) w7 w9:=by rw[h9];exact Fr.own (Fr.own (Fr.own (Fr.own (Fr.refl _ _) _ _) _ _) _ _) _ _
 refine⟨_,rfl,⟨h8,hat,none,0,none,0,rfl,⟨lrq 0,sl0,fun h=>absurd h (by exact Nat.lt_irrefl 0)⟩,⟨lrq 0,sl0,fun h=>absurd h (by exact Nat.lt_irrefl 0)⟩⟩,hp.fr hf9 (fun e=>?_) (fun e=>?_) (fun i hi e=>?_),?_⟩
 ·have e:C.P=rb:=e
  omega
 ·have e:C.TB=rb:=e
  omega
 ·have e:i=rb:=e
  omega
 ·rw[h9]
  exact Fr.high (Fr.high (Fr.high (Fr.high hf hrb _ _) hrb _ _) hrb _ _) hrb _ _

theorem not_true (C:Pcx) (n:Nat) (l:List Tk) (d:Nat) (w:World) (hk:C.Ok) (h:PaAt C w l d) (hk0:isP notS l=2):
  Calls Tryz.prog 315 #[.pointer (some ⟨C.P,0,none⟩)] w (CdP C d (notP n l) w):=by
 rw[notP_t hk0]
 have hL:=h.lts
 have hat:=in64_at hk h
 obtain⟨j,cap,m,hm0,hm1,hl,hmc,hcm,hb,p0,p1,f0,f1,t0,t1,t2,ltP,ltT⟩:=h.cells
 have hm2:m≤9223372036854775807:=by omega
 have hm3:(0:Int) < (m:Int):=by omega
 obtain⟨a,ha⟩:∃a:Int,a=(hdT l).at_ :=⟨_,rfl⟩
 rw[←ha]at t2 hat ⊢
 obtain⟨w1,hw1⟩:=nmq (((w.alloc (.cells #[.pointer (some ⟨C.P,0,none⟩)] 162)).alloc (.cells #[.int .u8 0,.slice none 0 0,.slice none 0 0,.int .i64 0] 179)).alloc (.cells #[.int .i64 a] 3))
 obtain⟨hf1,hz1,hpx,hbx,hax⟩:=not_boxes C a w w1 hw1
 have h1:=h.fr hf1 id id fun _ _=>id
 have h2:=h1.alloc (.cells #[.string ⟨#[33]⟩,.string ⟨#[91]⟩,.string ⟨#[116,114,117,101]⟩,.string ⟨#[102,97,108,115,101]⟩] 9)
 have hf2:Fr NoT w1 (w1.alloc (.cells #[.string ⟨#[33]⟩,.string ⟨#[91]⟩,.string ⟨#[116,114,117,101]⟩,.string ⟨#[102,97,108,115,101]⟩] 9)):=(Fr.refl NoT w1).alloc _
 have hiy:=is4_any C notS l d w1 h2 4 rfl (by decide)
 rw[hk0]at hiy
 have hps:=pass_any C l d _ hk h2 (fun ht=>by
  have:=(isP_get (j:=2) hk0).1
  rw[ht.1]at this
  simp[notS]at this)
 unfold PassP tkV pP at hps
 unfold strA notS at hiy
 simp only[List.map_cons,List.map_nil]at hiy
 rw[hz1]at hiy
 have HF:=hdq (hf1.trans hf2)
 have HPX:=hdq (hpx.fr0 hf2)
 have HAX:=hdq (hax.fr0 hf2)
 have HBX:=hdq (hbx.fr0 hf2)
 rw[hw1]at hiy hps HF HPX HAX HBX
 have HIY:=hdq hiy
 have HPS:=hdq hps
 have HL:=hdq hL
 clear hiy hps hw1 hf1 hz1 hpx hbx hax h1 h2 hf2 h hk hk0 hb hl hm0 ha hL
 go_enter Tryz.func315,Tryz.ntmps315
 go_wp2_with fail
 refine HIY.out.mono ?_
 rintro _ wy ⟨rfl,rfl⟩
 go_wp2_with fail
 refine HPS.out.mono ?_
 rintro _ w5 ⟨rfl,hpa,hf⟩
 have hb5:=HBX.out.fr hf (fun e=>by have e:w.heap.size+1=C.P:=e;have:=HL.out;omega)
 have ha5:=(HAX.out.fr hf (fun e=>by have e:w.heap.size+2=C.P:=e;have:=HL.out;omega)).cell 0
 have q0:=hb5.cell 0
 have q1:=hb5.cell 1
 have q2:=hb5.cell 2
 have q3:=hb5.cell 3
 have g0:=hb5.frozen 0
 have g1:=hb5.frozen 1
 have g2:=hb5.frozen 2
 have g3:=hb5.frozen 3
 have hlt5:=hb5.lt
 simp only[getsL]at q0 q1 q2 q3 ha5
 have HE:=hdq (show ∀w9,w9=((((w5.setCell ⟨w.heap.size+1,0,none⟩ (.int .u8 1)).setCell ⟨w.heap.size+1,1,none⟩ (.slice none 0 0)).setCell ⟨w.heap.size+1,2,none⟩ (.slice none 0 0)).setCell ⟨w.heap.size+1,3,none⟩ (.int .i64 a))→CdP C d (.ok ⟨1,.nil,.nil,a⟩ l.tail) w (.returned (cdV 1 none 0 0 none 0 0 a)) w9 from fun w9 h9=>
  cleaf_fin HL.out (by unfold in8;omega) hat (by omega) hpa (HF.out.any.trans hf) w9 h9)
 clear hb5 hpa hf
 go_wp2_with fail
 exact bodyPost_ret (v:=cdV 1 none 0 0 none 0 0 a) (by simp[results,Tryz.results315,go_sem,cdV,q0,q1,q2,q3,hlt5]) rfl (HE.out _ rfl)

theorem not_false (C:Pcx) (n:Nat) (l:List Tk) (d:Nat) (w:World) (hk:C.Ok) (h:PaAt C w l d) (hk0:isP notS l=3):
  Calls Tryz.prog 315 #[.pointer (some ⟨C.P,0,none⟩)] w (CdP C d (notP n l) w):=by
 rw[notP_f hk0]
 have hL:=h.lts
 have hat:=in64_at hk h
 obtain⟨j,cap,m,hm0,hm1,hl,hmc,hcm,hb,p0,p1,f0,f1,t0,t1,t2,ltP,ltT⟩:=h.cells
 have hm2:m≤9223372036854775807:=by omega
 have hm3:(0:Int) < (m:Int):=by omega
 obtain⟨a,ha⟩:∃a:Int,a=(hdT l).at_ :=⟨_,rfl⟩
 rw[←ha]at t2 hat ⊢
 obtain⟨w1,hw1⟩:=nmq (((w.alloc (.cells #[.pointer (some ⟨C.P,0,none⟩)] 162)).alloc (.cells #[.int .u8 0,.slice none 0 0,.slice none 0 0,.int .i64 0] 179)).alloc (.cells #[.int .i64 a] 3))
 obtain⟨hf1,hz1,hpx,hbx,hax⟩:=not_boxes C a w w1 hw1
 have h1:=h.fr hf1 id id fun _ _=>id
 have h2:=h1.alloc (.cells #[.string ⟨#[33]⟩,.string ⟨#[91]⟩,.string ⟨#[116,114,117,101]⟩,.string ⟨#[102,97,108,115,101]⟩] 9)
 have hf2:Fr NoT w1 (w1.alloc (.cells #[.string ⟨#[33]⟩,.string ⟨#[91]⟩,.string ⟨#[116,114,117,101]⟩,.string ⟨#[102,97,108,115,101]⟩] 9)):=(Fr.refl NoT w1).alloc _
 have hiy:=is4_any C notS l d w1 h2 4 rfl (by decide)
 rw[hk0]at hiy
 have hps:=pass_any C l d _ hk h2 (fun ht=>by
  have:=(isP_get (j:=3) hk0).1
  rw[ht.1]at this
  simp[notS]at this)
 unfold PassP tkV pP at hps
 unfold strA notS at hiy
 simp only[List.map_cons,List.map_nil]at hiy
 rw[hz1]at hiy
 have HF:=hdq (hf1.trans hf2)
 have HPX:=hdq (hpx.fr0 hf2)
 have HAX:=hdq (hax.fr0 hf2)
 have HBX:=hdq (hbx.fr0 hf2)
 rw[hw1]at hiy hps HF HPX HAX HBX
 have HIY:=hdq hiy
 have HPS:=hdq hps
 have HL:=hdq hL
 clear hiy hps hw1 hf1 hz1 hpx hbx hax h1 h2 hf2 h hk hk0 hb hl hm0 ha hL
 go_enter Tryz.func315,Tryz.ntmps315
 go_wp2_with fail
 refine HIY.out.mono ?_
 rintro _ wy ⟨rfl,rfl⟩
 go_wp2_with fail
 refine HPS.out.mono ?_
 rintro _ w5 ⟨rfl,hpa,hf⟩
 have hb5:=HBX.out.fr hf (fun e=>by have e:w.heap.size+1=C.P:=e;have:=HL.out;omega)
 have ha5:=(HAX.out.fr hf (fun e=>by have e:w.heap.size+2=C.P:=e;have:=HL.out;omega)).cell 0
 have q0:=hb5.cell 0
 have q1:=hb5.cell 1
 have q2:=hb5.cell 2
 have q3:=hb5.cell 3
 have g0:=hb5.frozen 0
 have g1:=hb5.frozen 1
 have g2:=hb5.frozen 2
 have g3:=hb5.frozen 3
 have hlt5:=hb5.lt
 simp only[getsL]at q0 q1 q2 q3 ha5
 have HE:=hdq (show ∀w9,w9=((((w5.setCell ⟨w.heap.size+1,0,none⟩ (.int .u8 2)).setCell ⟨w.heap.size+1,1,none⟩ (.slice none 0 0)).setCell ⟨w.heap.size+1,2,none⟩ (.slice none 0 0)).setCell ⟨w.heap.size+1,3,none⟩ (.int .i64 a))→CdP C d (.ok ⟨2,.nil,.nil,a⟩ l.tail) w (.returned (cdV 2 none 0 0 none 0 0 a)) w9 from fun w9 h9=>
  cleaf_fin HL.out (by unfold in8;omega) hat (by omega) hpa (HF.out.any.trans hf) w9 h9)
 clear hb5 hpa hf
 go_wp2_with fail
 exact bodyPost_ret (v:=cdV 2 none 0 0 none 0 0 a) (by simp[results,Tryz.results315,go_sem,cdV,q0,q1,q2,q3,hlt5]) rfl (HE.out _ rfl)

theorem cmp_fin {C:Pcx} {w w5 w7:World} {rb d L:Nat} {k a:Int} {x y:Ex} {A A2:Option Addr} {c1 c2:Nat} {r:List Tk} (hL:C.P < w.heap.size∧C.TB < w.heap.size∧C.W0.heap.size≤w.heap.size) (h8:in8 k) (hat:in64 a) (hrb:w.heap.size≤rb) (hrL:rb < L) (hLw:w.heap.size≤L)
  (hx:ExV w5 L (exV x.k x.nm x.n A x.args.len c1 x.at_) x) (hf57:Fr C.T w5 w7) (hy:ExV w7 w5.heap.size (exV y.k y.nm y.n A2 y.args.len c2 y.at_) y) (hL5:L≤w5.heap.size)
  (hp:PaAt C w7 r d) (hf:Fr C.T w w7) (w9:World)
  (h9:w9=((((w7.setCell ⟨rb,0,none⟩ (.int .u8 k)).setCell ⟨rb,1,none⟩ (.slice (some ⟨w7.heap.size,0,none⟩) 2 2)).setCell ⟨rb,2,none⟩ (.slice none 0 0)).setCell ⟨rb,3,none⟩ (.int .i64 a)).alloc (.cells #[.int .u8 x.k,.string x.nm,.int .i64 x.n,.slice A x.args.len c1,.int .i64 x.at_,.int .u8 y.k,.string y.nm,.int .i64 y.n,.slice A2 y.args.len c2,.int .i64 y.at_] 175)):
  CdP C d (.ok ⟨k,x.cons (y.cons .nil),.nil,a⟩ r) w (.returned (cdV k (some ⟨w7.heap.size,0,none⟩) 2 2 none 0 0 a)) w9:=by
 obtain⟨w8,hw8⟩:=nmq (((((w7.setCell ⟨rb,0,none⟩ (.int .u8 k)).setCell ⟨rb,1,none⟩ (.slice (some ⟨w7.heap.size,0,none⟩) 2 2)).setCell ⟨rb,2,none⟩ (.slice none 0 0)).setCell ⟨rb,3,none⟩ (.int .i64 a)))
 rw[←hw8]at h9
 have hf8:Fr (fun b=>b=rb) w7 w8:=by rw[hw8];exact Fr.own (Fr.own (Fr.own (Fr.own (Fr.refl _ _) _ _) _ _) _ _) _ _
 have hz:w8.heap.size=w7.heap.size:=by rw[hw8];simp
 have hf9:Fr (fun b=>b=rb) w7 w9:=by rw[h9];exact hf8.alloc _
 have hs9:w9.heap.size=w7.heap.size+1:=by rw[h9];simp[hz]
 have hs57:=hf57.size
 have hsw:=hf.size
 obtain⟨x1,x2,x3,Ax,cx,ex,hsx⟩:=hx
 obtain⟨y1,y2,y3,Ay,cy,ey,hsy⟩:=hy
 simp only[exV,Value.agg.injEq,Array.mk.injEq,List.cons.injEq,Value.slice.injEq,true_and,and_true]at ex ey
 obtain⟨rfl,rfl⟩:=ex
 obtain⟨rfl,rfl⟩:=ey
 have hX:∀b,New L w5 b→(b < w5.heap.size∧¬(b=C.P∨b=rb))∧New w.heap.size w9 b:=fun b hb=>by
  have h1:L≤b:=hb.1
  have h2:b < w5.heap.size:=hb.2
  exact⟨⟨h2,by omega⟩,by omega,by omega⟩
 have hY:∀b,New w5.heap.size w7 b→(b < w7.heap.size∧¬b=rb)∧New w.heap.size w9 b:=fun b hb=>by
  have h1:w5.heap.size≤b:=hb.1
  have h2:b < w7.heap.size:=hb.2
  exact⟨⟨h2,by omega⟩,by omega,by omega⟩
 have hf59:Fr (fun b=>b=C.P∨b=rb) w5 w9:=(hf57.mono fun i _ h=>Or.inl h).trans (hf9.mono fun i _ h=>Or.inr h)
 refine⟨_,rfl,⟨h8,hat,some ⟨w7.heap.size,0,none⟩,2,none,0,rfl,⟨lrq 2,sl2,fun _=>⟨w7.heap.size,0,rfl,?_⟩⟩,⟨lrq 0,sl0,fun h=>absurd h (by exact Nat.lt_irrefl 0)⟩⟩,hp.fr hf9 (fun e=>?_) (fun e=>?_) (fun i hi e=>?_),?_⟩
 ·refine exR_two (by rw[h9];exact Bk.new_at _ _ _ hz) ⟨by omega,by omega⟩ ⟨x1,x2,x3⟩ ⟨y1,y2,y3⟩ (hsx.imp fun _ _ h=>?_) (hsy.imp fun _ _ h=>?_)
  ·exact ExR.more (fun b hb=>(hX b hb).2) (ExR.keep (hf59.same fun b hb=>(hX b hb).1) h)
  ·exact ExR.more (fun b hb=>(hY b hb).2) (ExR.keep (hf9.same fun b hb=>(hY b hb).1) h)
 ·have e:C.P=rb:=e
  omega
 ·have e:C.TB=rb:=e
  omega
 ·have e:i=rb:=e
  omega
 ·rw[h9,hw8]
  exact(Fr.high (Fr.high (Fr.high (Fr.high hf hrb _ _) hrb _ _) hrb _ _) hrb _ _).alloc _
theorem cmpP_x {n:Nat} {l r:List Tk} {x:Ex} (h:exprP n l= .ok x r):cmpP n l=if isP cmpS r < 0 then .err 90 (hdT r).at_ else(exprP n r.tail).then fun y q=> .ok ⟨3+isP cmpS r,x.cons (y.cons .nil),.nil,(hdT r).at_⟩ q:=by
 unfold cmpP;rw[h];rfl
theorem cmpP_e {n:Nat} {l:List Tk} {e a:Int} (h:exprP n l= .err e a):cmpP n l= .err e a:=by
 unfold cmpP;rw[h];rfl

theorem not_cmp (C:Pcx) (n:Nat) (l:List Tk) (d:Nat) (w:World) (hdn:d+n=24) (hk:C.Ok) (h:PaAt C w l d) (hk0:isP notS l < 0):
  Calls Tryz.prog 315 #[.pointer (some ⟨C.P,0,none⟩)] w (CdP C d (notP n l) w):=by
 rw[notP_c hk0]
 have hL:=h.lts
 obtain⟨j,cap,m,hm0,hm1,hl,hmc,hcm,hb,p0,p1,f0,f1,t0,t1,t2,ltP,ltT⟩:=h.cells
 have hm2:m≤9223372036854775807:=by omega
 have hm3:(0:Int) < (m:Int):=by omega
 obtain⟨a,ha⟩:∃a:Int,a=(hdT l).at_ :=⟨_,rfl⟩
 rw[←ha]at t2
 obtain⟨w1,hw1⟩:=nmq (((w.alloc (.cells #[.pointer (some ⟨C.P,0,none⟩)] 162)).alloc (.cells #[.int .u8 0,.slice none 0 0,.slice none 0 0,.int .i64 0] 179)).alloc (.cells #[.int .i64 a] 3))
 obtain⟨hf1,hz1,hpx,hbx,hax⟩:=not_boxes C a w w1 hw1
 have h1:=h.fr hf1 id id fun _ _=>id
 have h2:=h1.alloc (.cells #[.string ⟨#[33]⟩,.string ⟨#[91]⟩,.string ⟨#[116,114,117,101]⟩,.string ⟨#[102,97,108,115,101]⟩] 9)
 have hf2:Fr NoT w1 (w1.alloc (.cells #[.string ⟨#[33]⟩,.string ⟨#[91]⟩,.string ⟨#[116,114,117,101]⟩,.string ⟨#[102,97,108,115,101]⟩] 9)):=(Fr.refl NoT w1).alloc _
 have hiy:=is4_any C notS l d w1 h2 4 rfl (by decide)
 unfold strA at hiy
 obtain⟨k,hkk⟩:=nmq (isP notS l)
 rw[←hkk]at hiy hk0
 unfold notS at hiy
 simp only[List.map_cons,List.map_nil]at hiy
 rw[hz1]at hiy
 have e0:(k==0)=false:=by simp;omega
 have e1:(k==1)=false:=by simp;omega
 have e2:(k==2)=false:=by simp;omega
 have e3:(k==3)=false:=by simp;omega
 have hex:=pexpr_any C n l d _ hdn hk h2
 have HF:=hdq (hf1.trans hf2)
 have HPX:=hdq (hpx.fr0 hf2)
 have HBX:=hdq (hbx.fr0 hf2)
 have hsz:(w1.alloc (.cells #[.string ⟨#[33]⟩,.string ⟨#[91]⟩,.string ⟨#[116,114,117,101]⟩,.string ⟨#[102,97,108,115,101]⟩] 9)).heap.size =w.heap.size+4:=by simp[hz1]
 rw[hw1]at hiy hex HF HPX HBX hsz
 have HIY:=hdq hiy
 have HEX:=hdq hex
 have HL:=hdq hL
 have HK:=hdq hk
 have HZ:=hdq hsz
 obtain⟨R,hR⟩:=nmq (cmpP n l)
 rw[←hR]
 have HR:=hdq hR
 clear hiy hex hw1 hf1 hz1 hpx hbx hax h1 h2 hf2 h hk hk0 hkk hb hl hm0 ha hL hsz hR
 go_enter Tryz.func315,Tryz.ntmps315
 go_wp2_with fail
 refine HIY.out.mono ?_
 rintro _ wy ⟨rfl,rfl⟩
 go_wp2_with fail
 refine HEX.out.mono ?_
 intro e w5 hE
 rcases hE.ways with⟨x,r,A,c1,hx,rfl,hv,hp,hf⟩|⟨c,e,hx,rfl,hf⟩
 rotate_left
 ·go_wp2_with fail
  exact⟨rfl,by rw[HR.out,cmpP_e hx];exact⟨rfl,HF.out.any.trans hf⟩⟩
 rw[HZ.out]at hv
 have hR2:=HR.out.trans (cmpP_x hx)
 have hpb5:=HPX.out.fr hf (fun e=>by have e:w.heap.size=C.P:=e;have:=HL.out;omega)
 have hbb5:=HBX.out.fr hf (fun e=>by have e:w.heap.size+1=C.P:=e;have:=HL.out;omega)
 have hs5:=hf.size
 rw[HZ.out]at hs5
 obtain⟨w6,hw6⟩:=nmq (w5.alloc (.cells #[.int .u8 x.k,.string x.nm,.int .i64 x.n,.slice A x.args.len c1,.int .i64 x.at_] 175))
 have hf6:Fr NoT w5 w6:=by rw[hw6];exact(Fr.refl _ _).alloc _
 have hxb6:Bk w6 w5.heap.size 175 #[.int .u8 x.k,.string x.nm,.int .i64 x.n,.slice A x.args.len c1,.int .i64 x.at_]:=by rw[hw6];exact Bk.new _ _ _
 have hz6:w6.heap.size=w5.heap.size+1:=by rw[hw6];simp
 have hp6:=hp.fr hf6 id id fun _ _=>id
 have h7:=hp6.alloc (.cells #[.string ⟨#[60]⟩,.string ⟨#[60,61]⟩,.string ⟨#[62]⟩,.string ⟨#[62,61]⟩,.string ⟨#[61,61]⟩,.string ⟨#[33,61]⟩] 9)
 have hf7:Fr NoT w6 (w6.alloc (.cells #[.string ⟨#[60]⟩,.string ⟨#[60,61]⟩,.string ⟨#[62]⟩,.string ⟨#[62,61]⟩,.string ⟨#[61,61]⟩,.string ⟨#[33,61]⟩] 9)):=(Fr.refl _ _).alloc _
 have hic:=is4_any C cmpS r d w6 h7 6 rfl (by decide)
 unfold strA at hic
 obtain⟨q,hqq⟩:=nmq (isP cmpS r)
 rw[←hqq]at hic hR2
 unfold cmpS at hic
 simp only[List.map_cons,List.map_nil]at hic
 rw[hz6]at hic
 have hpc:=hpb5.cell 0
 have hpl5:=hpb5.lt
 have hfl:=fail_any C 90 r d _ h7
 unfold ErrP wrongE pP at hfl
 have hat:=in64_at HK.out hp
 have HAT:=hdq hat
 have hF7:=(HF.out.any.trans hf).trans (hf6.any.trans hf7.any)
 have HF7:=hdq hF7
 have HW6:=hdq hw6
 rw[hw6]at hic hfl
 have HIC:=hdq hic
 have HFL:=hdq hfl
 have HQQ:=hdq hqq
 have HR2:=hdq hR2
 have HX5:=hdq hv
 have HPB6:=hdq ((hpb5.fr0 hf6).fr0 hf7)
 have HBB6:=hdq ((hbb5.fr0 hf6).fr0 hf7)
 have HXB6:=hdq (hxb6.fr0 hf7)
 have H7:=hdq h7
 have HF57:=hdq (hf6.trans hf7)
 simp only[List.getElem?_toArray,List.getElem?_cons_zero]at hpc
 have hpx5:w5.cell? ⟨w.heap.size,0,none⟩=some (.pointer (some ⟨C.P,0,none⟩)):=hpc
 by_cases hneg:q < 0
 ·clear hx hv hp hf hR2 hpb5 hbb5 hf6 hxb6 hp6 h7 hf7 hic hqq hfl hat hF7 hw6 hpc
  go_wp2_with fail
  refine HIC.out.mono ?_
  rintro _ wz ⟨rfl,rfl⟩
  go_wp2_with fail
  refine HFL.out.mono ?_
  rintro _ w8 ⟨rfl,hf8⟩
  go_wp2_with fail
  rw[←HW6.out]at hf8
  refine⟨rfl,?_⟩
  rw[HR2.out,if_pos hneg]
  exact⟨rfl,HF7.out.trans hf8⟩
 ·have hge:0≤q:=by omega
  have hps:=pass_any C r d _ HK.out h7 (fun ht=>by
   have:=(isP_text (signs:=cmpS) (l:=r) (by rw[←hqq];exact hge)).1
   rw[ht.1]at this
   simp[cmpS]at this)
  unfold PassP tkV pP at hps
  rw[hw6]at hps
  have HPS:=hdq hps
  have hqb:q≤6:=by
   have:=isP_le cmpS r
   rw[←hqq]at this
   have e:cmpS.length=6:=rfl
   omega
  clear hx hv hp hf hR2 hpb5 hbb5 hf6 hxb6 hp6 h7 hf7 hic hqq hfl hat hF7 hw6 hpc hps
  go_wp2_with fail
  refine HIC.out.mono ?_
  rintro _ wz ⟨rfl,rfl⟩
  go_wp2_with fail
  refine HPS.out.mono ?_
  rintro _ w8 ⟨rfl,hp8,hf8⟩
  rw[←HW6.out]at hf8
  have hne5:¬C.T w5.heap.size:=fun e=>by have e:w5.heap.size=C.P:=e;have:=HL.out;omega
  have hnep:¬C.T w.heap.size:=fun e=>by have e:w.heap.size=C.P:=e;have:=HL.out;omega
  have hner:¬C.T (w.heap.size+1):=fun e=>by have e:w.heap.size+1=C.P:=e;have:=HL.out;omega
  have HNE:=hdq (aiq hne5 (aiq hnep hner))
  have hpb8:=HPB6.out.fr hf8 hnep
  have hbb8:=HBB6.out.fr hf8 hner
  have hxb8:=HXB6.out.fr hf8 hne5
  have hpp0:=hpb8.cell 0
  have x0:=hxb8.cell 0
  have x1:=hxb8.cell 1
  have x2:=hxb8.cell 2
  have x3:=hxb8.cell 3
  have x4:=hxb8.cell 4
  simp only[getsL]at hpp0 x0 x1 x2 x3 x4
  have hpl:=hpb8.lt
  have hxl:=hxb8.lt
  have hdr:=hp8.fr (T:=NoT) (Fr.drew (Fr.refl _ _)) id id fun _ _=>id
  have HEY:=hdq (pexpr_any C n r.tail d _ hdn HK.out hdr)
  have HPB8:=hdq hpb8
  have HBB8:=hdq hbb8
  have HXB8:=hdq hxb8
  have HF58:=hdq ((HF57.out.any.trans hf8).drew)
  have HF8:=hdq (HF7.out.trans hf8)
  clear hp8 hf8 hpb8 hbb8 hxb8 hdr hne5 hnep hner
  go_wp2_with fail
  go_region_held2 (fun W'=>W'.cell? ⟨w.heap.size,0,none⟩=some (.pointer (some ⟨C.P,0,none⟩))∧W'.cell? ⟨w5.heap.size,0,none⟩=some (.int .u8 x.k)∧W'.cell? ⟨w5.heap.size,1,none⟩=some (.string x.nm)∧W'.cell? ⟨w5.heap.size,2,none⟩=some (.int .i64 x.n)∧W'.cell? ⟨w5.heap.size,3,none⟩=some (.slice A x.args.len c1)∧W'.cell? ⟨w5.heap.size,4,none⟩=some (.int .i64 x.at_))
   (first
    |(refine⟨?_,?_,?_,?_,?_,?_⟩<;>with_reducible assumption)
    |(with_reducible refine⟨(Fr.cell (T:=fun b=>b=w.heap.size+1) (w:=w10) (Fr.alloc (Fr.own (Fr.own (Fr.own (Fr.own (Fr.refl _ _) _ _) _ _) _ _) _ _) _) hpl10 hpr).trans hp10,(Fr.cell (T:=fun b=>b=w.heap.size+1) (w:=w10) (Fr.alloc (Fr.own (Fr.own (Fr.own (Fr.own (Fr.refl _ _) _ _) _ _) _ _) _ _) _) hxl10 hxr).trans y0,(Fr.cell (T:=fun b=>b=w.heap.size+1) (w:=w10) (Fr.alloc (Fr.own (Fr.own (Fr.own (Fr.own (Fr.refl _ _) _ _) _ _) _ _) _ _) _) hxl10 hxr).trans y1,(Fr.cell (T:=fun b=>b=w.heap.size+1) (w:=w10) (Fr.alloc (Fr.own (Fr.own (Fr.own (Fr.own (Fr.refl _ _) _ _) _ _) _ _) _ _) _) hxl10 hxr).trans y2,(Fr.cell (T:=fun b=>b=w.heap.size+1) (w:=w10) (Fr.alloc (Fr.own (Fr.own (Fr.own (Fr.own (Fr.refl _ _) _ _) _ _) _ _) _ _) _) hxl10 hxr).trans y3,(Fr.cell (T:=fun b=>b=w.heap.size+1) (w:=w10) (Fr.alloc (Fr.own (Fr.own (Fr.own (Fr.own (Fr.refl _ _) _ _) _ _) _ _) _ _) _) hxl10 hxr).trans y4⟩)
    |(with_reducible refine⟨(Fr.cell (T:=NoT) (w:=w10) (Fr.alloc (Fr.refl _ _) _) hpl10 id).trans hp10,(Fr.cell (T:=NoT) (w:=w10) (Fr.alloc (Fr.refl _ _) _) hxl10 id).trans y0,(Fr.cell (T:=NoT) (w:=w10) (Fr.alloc (Fr.refl _ _) _) hxl10 id).trans y1,(Fr.cell (T:=NoT) (w:=w10) (Fr.alloc (Fr.refl _ _) _) hxl10 id).trans y2,(Fr.cell (T:=NoT) (w:=w10) (Fr.alloc (Fr.refl _ _) _) hxl10 id).trans y3,(Fr.cell (T:=NoT) (w:=w10) (Fr.alloc (Fr.refl _ _) _) hxl10 id).trans y4⟩)
    |(with_reducible refine⟨(Fr.cell (T:=NoT) (w:=w8) (Fr.drew (Fr.refl _ _)) hpl id).trans hpp0,(Fr.cell (T:=NoT) (w:=w8) (Fr.drew (Fr.refl _ _)) hxl id).trans x0,(Fr.cell (T:=NoT) (w:=w8) (Fr.drew (Fr.refl _ _)) hxl id).trans x1,(Fr.cell (T:=NoT) (w:=w8) (Fr.drew (Fr.refl _ _)) hxl id).trans x2,(Fr.cell (T:=NoT) (w:=w8) (Fr.drew (Fr.refl _ _)) hxl id).trans x3,(Fr.cell (T:=NoT) (w:=w8) (Fr.drew (Fr.refl _ _)) hxl id).trans x4⟩))
   (first
    |(go_at_call 247
      with_reducible refine HEY.out.mono ?_
      intro e w10 hE
      rcases hE.ways with⟨y,r2,A2,c2,hy,rfl,hv,hp,hf⟩|⟨c,e,hy,rfl,hf⟩
      rotate_left
      ·have hfin:CdP C d R w (.panicked [{v:= .iface 161 (.agg #[.int .i64 c,.int .i64 e]),recovered:=false}]) w10:=by
        rw[HR2.out,if_neg (Int.not_lt.2 hge),hy]
        exact⟨rfl,HF8.out.drew.trans hf⟩
       exact⟨rfl,hfin⟩
      have hfw:=(Fr.drew (Fr.refl C.T w8)).trans hf
      have hb10:=HBB8.out.fr hfw HNE.out.2.2
      have q0:=hb10.cell 0
      have q1:=hb10.cell 1
      have q2:=hb10.cell 2
      have q3:=hb10.cell 3
      have g0:=hb10.frozen 0
      have g1:=hb10.frozen 1
      have g2:=hb10.frozen 2
      have g3:=hb10.frozen 3
      have hpb10:=HPB8.out.fr hfw HNE.out.2.1
      have hxb10:=HXB8.out.fr hfw HNE.out.1
      have hp10:=hpb10.cell 0
      have y0:=hxb10.cell 0
      have y1:=hxb10.cell 1
      have y2:=hxb10.cell 2
      have y3:=hxb10.cell 3
      have y4:=hxb10.cell 4
      have hpl10:=hpb10.lt
      have hxl10:=hxb10.lt
      have hrl10:=hb10.lt
      have hpr:¬w.heap.size=w.heap.size+1:=by omega
      have hxr:¬w5.heap.size=w.heap.size+1:=by omega
      simp only[getsL]at q0 q1 q2 q3 hp10 y0 y1 y2 y3 y4
      have hRok:R= .ok ⟨3+q,x.cons (y.cons .nil),.nil,(hdT r).at_⟩ r2:=by rw[HR2.out,if_neg (Int.not_lt.2 hge),hy];rfl
      have HRok:=hdq hRok
      have HV:=hdq hv
      have HP:=hdq hp
      have HFw:=hdq (HF8.out.drew.trans hf)
      have HF1:=hdq ((HF58.out).trans hf)
      have hs8:w5.heap.size≤w8.heap.size:=HF58.out.size
      have HS8:=hdq hs8
      clear hRok hy hv hp hf hfw hb10 hpb10 hxb10 hs8))
  all_goals
   go_wp2_with fail
   have hw3:IntKind.u8.wrap (3+IntKind.u8.wrap q)=3+q:=by simp[IntKind.wrap,IntKind.signed,IntKind.bits];omega
   rw[hw3]
   obtain⟨k9,hk9⟩:=nmq (3+q)
   rw[←hk9]at HRok ⊢
   have h89:in8 k9:=by unfold in8;omega
   refine bodyPost_ret (v:=cdV k9 (some ⟨w10.heap.size,0,none⟩) 2 2 none 0 0 (hdT r).at_) (by simp[results,Tryz.results315,go_sem,cdV,q0,q1,q2,q3,hrl10]) rfl ?_
   rw[HRok.out]
   refine cmp_fin (w5:=w5) (L:=w.heap.size+4) HL.out h89 HAT.out (by omega) (by omega) (by omega) HX5.out HF1.out ?_ hs5 HP.out HFw.out _ rfl
   have hv:=HV.out
   exact hv.low HS8.out
theorem not_step (C:Pcx) (n:Nat) (hs:∀m,n=m+1→NotC C m) (l:List Tk) (d:Nat) (w:World) (hdn:d+n=24) (hk:C.Ok) (h:PaAt C w l d):Calls Tryz.prog 315 #[.pointer (some ⟨C.P,0,none⟩)] w (CdP C d (notP n l) w):=by
 have hle:=isP_le notS l
 have e:notS.length=4:=rfl
 by_cases h0:isP notS l < 0
 ·exact not_cmp C n l d w hdn hk h h0
 by_cases h1:isP notS l=0
 ·exact not_bang C n hs l d w hdn hk h h1
 by_cases h2:isP notS l=1
 ·exact not_brack C n hs l d w hdn hk h h2
 by_cases h3:isP notS l=2
 ·exact not_true C n l d w hk h h3
 ·have h4:isP notS l≠4:=fun h=>by
   have:=(isP_get (j:=4) h).1
   simp[notS]at this
  exact not_false C n l d w hk h (by omega)
theorem notC_all (C:Pcx) (hk:C.Ok):∀n,NotC C n:=by
 intro n
 induction n with
 |zero=>exact fun l d w hdn h=>not_step C 0 (fun m h=>absurd h (by omega)) l d w hdn hk h
 |succ n ih=>exact fun l d w hdn h=>not_step C (n+1) (fun m h=>(show n=m by omega)▸ih) l d w hdn hk h
theorem pcond_any (C:Pcx) (n:Nat) (l:List Tk) (d:Nat) (w:World) (hdn:d+n=24) (hk:C.Ok) (h:PaAt C w l d):Calls Tryz.prog 310 #[.pointer (some ⟨C.P,0,none⟩)] w (CdP C d (condP n l) w):=cond_any C n (notC_all C hk n) l d w hdn hk h
end Go.Proofs.YtfomomaomggpbaaGreatDoor
