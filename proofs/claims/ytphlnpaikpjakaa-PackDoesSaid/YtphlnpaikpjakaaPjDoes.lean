/-
  law26.PackDoes: packs are made, checked and looked through as the document says.
-/
import Derived.Test.YtphlnpaikpjakaaPjMay
set_option linter.unusedVariables false
set_option linter.unusedSimpArgs false
namespace Go.Proofs.Ytphlnpaikpjakaa
open Go.RowKit Go.Shelf

def TrueP (W:World) (e:Ending) (w':World):Prop:=e= .returned (.bool true)∧Below W.heap.size W w'
def pkErr (g:Gr) (most:Int):Int:=if mayG g=false then 8 else if most < 1∨6 < most then 2 else 0
def pkLs (g:Gr) (most:Int):List (List Int):=if mayG g=false then []else if most < 1∨6 < most then []else pkOut (pkRun most (pk0 g.vars.toNat) (g.edges.map scalE)) g.vars.toNat
theorem LsM.nil (w:World) (B:Nat):LsM w B [] (.slice none 0 0):=⟨none,0,rfl,by simp,by omega,fun h=>by simp at h⟩
theorem PacksP.as {g:Gr} {most:Int} {w:World} {e:Ending} {w':World} (h:PacksP g most w e w'):∃u,e= .returned (.tuple #[u,.int .i64 (pkErr g most)])∧LsM w' w'.heap.size (pkLs g most) u∧Below w.heap.size w w':=by
 rcases h with⟨h1,h2,h3⟩|⟨h1,h2,h3,h4⟩|⟨h1,h2,h3,v,u,h4,h5,h6,h7⟩
 ·refine⟨_,by rw[h2];unfold pkErr;rw[if_pos h1],?_,h3⟩
  unfold pkLs
  rw[if_pos h1]
  exact LsM.nil _ _
 ·have h1':¬mayG g=false:=by rw[h1];simp
  refine⟨_,by rw[h3];unfold pkErr;rw[if_neg h1',if_pos h2],?_,h4⟩
  unfold pkLs
  rw[if_neg h1',if_pos h2]
  exact LsM.nil _ _
 ·have h1':¬mayG g=false:=by rw[h1];simp
  have h2':¬(most < 1∨6 < most):=by omega
  refine⟨u,by rw[h5];unfold pkErr;rw[if_neg h1',if_neg h2'],?_,h7⟩
  unfold pkLs
  rw[if_neg h1',if_neg h2',show g.vars.toNat=v from by omega]
  exact h6
theorem findE_form (ls:List (List Int)) (n:Int):∃a b c:Int,findE ls n= .returned (.tuple #[.int .i64 a,.int .i64 b,.int .i64 c]):=by
 unfold findE
 split
 ·exact⟨_,_,_,rfl⟩
 ·exact⟨_,_,_,rfl⟩
theorem LsM.keep8 {w w':World} {B B':Nat} {ls:List (List Int)} {v:Value} (h:LsM w B ls v) (hB:B≤B') (hs:Same B w w'):LsM w' B' ls v:=by
 obtain⟨A,c,e,h1,h2,h3⟩:=h
 refine⟨A,c,e,h1,h2,fun hp=>?_⟩
 obtain⟨b,o,e2,hb,hs2⟩:=h3 hp
 refine⟨b,o,e2,ltq hb hB,fun i l hi=>?_⟩
 obtain⟨A',c',h4,h5⟩:=hs2 i l hi
 have h6:=h5.keep hs
 exact⟨A',c',(hs _ hb).trans h4,h6.1,h6.2.1,fun hp'=>by
  obtain⟨b',o',e3,hb',ha⟩:=h6.2.2 hp'
  exact⟨b',o',e3,ltq hb' hB,ha⟩⟩
set_option maxRecDepth 100000 in
set_option maxHeartbeats 6400000 in
theorem pdoes_any (g:Gr) (Aa Ae:Option Addr) (ca ce:Nat) (most n:Int) (ls:List (List Int)) (y:Value) (w:World) (hg:GrSl w w.heap.size g Aa ca Ae ce) (hnm:∀e∈g.edges,nmX e.args) (hx:LsM w w.heap.size ls y) (h64:in64 most):
  Calls Try.prog 3 #[grV g.vars Aa g.arrays.length ca g.nodes g.start g.last Ae g.edges.length ce,.int .i64 most,y,.int .i64 n] w (TrueP w):=by
 have hla:=leq9 hg.arrays.1 hg.arrays.2.1
 have hle:=leq9 hg.edges.1 hg.edges.2.1
 have hup:∀W:World,Below w.heap.size w W→GrSl W W.heap.size g Aa ca Ae ce:=fun W hf=>(hg.keep (Same.of hf (lrq _))).rise7 hf.size
 have hgr:=fun(W:World) (hf:Below w.heap.size w W)=>greatN_any g.vars Aa g.arrays.length ca g.nodes g.start g.last g.edges Ae ce w.heap.size W hf.size (hg.edges.keep (Same.of hf (lrq _))) hla hnm
 have hpa:=fun(W:World) (hf:Below w.heap.size w W)=>packs_any g Aa Ae ca ce most W (hup W hf) h64
 have hpr:=fun(W:World) (hf:Below w.heap.size w W)=>packsR_any g Aa Ae ca ce most W (hup W hf)
 have hlu:∀W:World,Below w.heap.size w W→LsM W W.heap.size ls y:=fun W hf=>hx.keep8 hf.size (Same.of hf (lrq _))
 have HFI:=hdq (fun(W:World) (hf:Below w.heap.size w W)=>find_any ls y n W (hlu W hf))
 have HFR:=hdq (fun(W:World) (hf:Below w.heap.size w W)=>findR_any ls y n W (hlu W hf))
 have HCK:=hdq (fun(W:World) (hl:ls.length≤100000) (hf:Below w.heap.size w W)=>pkchk_any g.vars most ls y W (hlu W hf) hl)
 have HCR:=hdq (fun(W:World) (hf:Below w.heap.size w W)=>chkR_any g.vars most ls y W (hlu W hf))
 have HX:=hdq hx
 obtain⟨A,c,rfl,hl1,hl2,hl3⟩:=hx
 have HROW:=hdq hl3
 obtain⟨m,hm⟩:=nmq ls.length
 rw[←hm]at HX HFI HFR HCK HCR hl1 ⊢
 have HM:=hdq hm
 unfold grV at hgr hpa hpr ⊢
 obtain⟨na,hna⟩:=nmq g.arrays.length
 obtain⟨ne,hne⟩:=nmq g.edges.length
 rw[←hna,←hne]at hgr hpa hpr ⊢
 rw[←hna]at hla
 rw[←hne]at hle
 obtain⟨w1,hw1⟩:=nmq (w.alloc (.cells #[.int .i64 g.vars,.slice Aa na ca,.int .i64 g.nodes,.int .i64 g.start,.int .i64 g.last,.slice Ae ne ce] 25))
 have hb1:Below w.heap.size w w1:=by rw[hw1];exact(Below.refl _ _).alloc (lrq _) _
 have hk1:Bk w1 w.heap.size 25 #[.int .i64 g.vars,.slice Aa na ca,.int .i64 g.nodes,.int .i64 g.start,.int .i64 g.last,.slice Ae ne ce]:=by rw[hw1];exact Bk.new _ _ _
 have HGR:=hdq (hgr w1 hb1)
 have HPA:=hdq hpa
 have HPR:=hdq hpr
 have HW1:=hdq hw1
 have HB1:=hdq hb1
 have HK1:=hdq hk1
 clear hg hgr hpa hpr hup hna hne hw1 hb1 hk1 hnm h64 hlu hl3 hm
 go_enter Try.func3,Try.ntmps3
 go_wp2_with fail
 rw[←HW1.out]
 refine HGR.out.mono ?_
 rintro _ w3 ⟨b,rfl,hb3,hsm⟩
 have HB3:=hdq (HB1.out.trans (hb3.mono HB1.out.size))
 have HK3:=hdq (HK1.out.fr0 (Fr.below hb3))
 have HSM:=hdq hsm
 clear hb3 hsm
 cases b
 rotate_left
 ·go_wp2_with fail
  go_ret
  exact⟨rfl,HB3.out⟩
 by_cases h100:(100:Int) < (m:Int)
 ·go_wp2_with fail
  go_ret
  exact⟨rfl,HB3.out⟩
 have h100':m≤100:=by omega
 go_wp2_with fail
 go_loop [9] (fun i=>∃k:Nat,k≤m∧i= .int .i64 k) (fun i=>m - (intOf i).toNat)
 case atStart=>exact⟨0,Nat.zero_le _,rfl⟩
 case round=>
  obtain⟨k,hk,rfl⟩:=hrel
  by_cases hlt:k < m
  ·obtain⟨l,hl⟩:∃l,ls[k]?=some l:=⟨_,List.getElem?_eq_getElem (by rw[←HM.out];exact hlt)⟩
   obtain⟨b,o,rfl,hbl,hat⟩:=HROW.out (by rw[←HM.out];omega)
   obtain⟨A',c',c0,_⟩:=hat k l hl
   have e0:=(Same.of HB3.out (lrq _) ⟨b,o+k,none⟩ hbl).trans c0
   have el:b < w3.heap.size:=ltq hbl HB3.out.size
   obtain⟨nl,hnl⟩:=nmq l.length
   rw[←hnl]at e0
   clear hl hat c0 hnl
   by_cases hbig:(100:Int) < (nl:Int)
   ·go_wp2_with fail
    go_ret
    exact⟨rfl,HB3.out⟩
   ·go_wp2_with fail
    go_round
    case rel=>exact⟨k+1,by omega,by go_num⟩
    case measure=>simp[intOf];omega
  ·obtain rfl:k=m:=by omega
   have hsc:∀e∈g.edges,(scalE e).length ≤100000:=fun e he=>scalE_len (HSM.out trivial e he)
   have HPA3:=hdq (HPA.out w3 HB3.out hsc)
   have HSC:=hdq hsc
   have gc0:=HK3.out.cell 0
   have gc1:=HK3.out.cell 1
   have gc2:=HK3.out.cell 2
   have gc3:=HK3.out.cell 3
   have gc4:=HK3.out.cell 4
   have gc5:=HK3.out.cell 5
   have gl:=HK3.out.lt
   simp only[List.getElem?_toArray,List.getElem?_cons_succ,List.getElem?_cons_zero]at gc0 gc1 gc2 gc3 gc4 gc5
   clear hsc
   go_wp2_with fail
   go_at_call 5
   refine HPA3.out.mono ?_
   rintro _ w4 hp
   obtain⟨u,rfl,hu,hb4⟩:=hp.as
   have HB4:=hdq (HB3.out.trans (hb4.mono HB3.out.size))
   have HK4:=hdq (HK3.out.fr0 (Fr.below hb4))
   have HPR4:=hdq (HPR.out w4 HB4.out HSC.out)
   have HU:=hdq hu
   clear hp hu hb4 gc0 gc1 gc2 gc3 gc4 gc5 gl
   have gc0:=HK4.out.cell 0
   have gc1:=HK4.out.cell 1
   have gc2:=HK4.out.cell 2
   have gc3:=HK4.out.cell 3
   have gc4:=HK4.out.cell 4
   have gc5:=HK4.out.cell 5
   have gl:=HK4.out.lt
   simp only[List.getElem?_toArray,List.getElem?_cons_succ,List.getElem?_cons_zero]at gc0 gc1 gc2 gc3 gc4 gc5
   go_wp2_with fail
   go_at_call 6
   refine HPR4.out.mono ?_
   rintro _ w5 hp
   obtain⟨u',rfl,hu',hb5⟩:=hp.as
   have HB5:=hdq (HB4.out.trans (hb5.mono HB4.out.size))
   have HK5:=hdq (HK4.out.fr0 (Fr.below hb5))
   have HU5:=hdq (HU.out.keep8 hb5.size (Same.of hb5 (lrq _)))
   have HV5:=hdq hu'
   obtain⟨fa,fb,fc,hfe⟩:=findE_form ls n
   have hfi:=HFI.out w5 HB5.out
   rw[hfe]at hfi
   have HFI5:=hdq hfi
   have HFE:=hdq hfe
   clear hp hu' hb5 gc0 gc1 gc2 gc3 gc4 gc5 gl hfe hfi
   go_wp2_with fail
   go_at_call 7
   refine HFI5.out.mono ?_
   rintro _ w6 ⟨rfl,hb6⟩
   have HB6:=hdq (HB5.out.trans (hb6.mono HB5.out.size))
   have HK6:=hdq (HK5.out.fr0 (Fr.below hb6))
   have HU6:=hdq (HU5.out.keep8 hb6.size (Same.of hb6 (lrq _)))
   have HV6:=hdq (HV5.out.keep8 hb6.size (Same.of hb6 (lrq _)))
   have hfr:=HFR.out w6 HB6.out
   rw[HFE.out]at hfr
   have HFR6:=hdq hfr
   clear hb6 hfr
   go_wp2_with fail
   go_at_call 8
   refine HFR6.out.mono ?_
   rintro _ w7 ⟨rfl,rfl⟩
   have hk6:=HK6.out
   have hlt6:=hk6.lt
   have k0:=hk6.cell 0
   simp only[List.getElem?_toArray,List.getElem?_cons_zero]at k0
   have z0:∀z:HeldW (Below w7.heap.size w7),z.w.cell? ⟨w.heap.size,0,none⟩=some (.int .i64 g.vars):=fun z=>(z.h.cell hlt6).trans k0
   have up:∀W,Below w7.heap.size w7 W→Below w.heap.size w W:=fun W h=>HB6.out.trans (h.mono HB6.out.size)
   have C3:=hdq (fun(W:World) (h:Below w7.heap.size w7 W)=>(HCK.out W (by omega) (up W h)).mono fun x w' h2=>show x= .returned (.int .i64 (chkN g.vars most ls))∧Below w7.heap.size w7 w' from⟨h2.1,h.trans (h2.2.mono h.size)⟩)
   have C4:=hdq (fun(W:World) (h:Below w7.heap.size w7 W)=>(HCR.out W (up W h)).mono fun x w' h2=>show x= .returned (.int .i64 (chkN g.vars most ls))∧Below w7.heap.size w7 w' from⟨h2.1,h.trans (h2.2.mono h.size)⟩)
   have C5:=hdq (fun(W:World) (h:Below w7.heap.size w7 W)=>(sameR_any (pkLs g most) u u' W w7.heap.size h.size (HU6.out.keep8 (lrq _) (Same.of h (lrq _))) (HV6.out.keep8 (lrq _) (Same.of h (lrq _)))).mono fun x w' h2=>show x= .returned (.bool true)∧Below w7.heap.size w7 w' from⟨h2.1,by obtain⟨q,hq⟩:=h2.2;rw[hq];exact⟨h.os,h.tape,h.output,h.size,h.block⟩⟩)
   have hS:Below w7.heap.size w7 w7.drew:=(Below.refl _ _).drew
   have hnon:Nonempty (HeldW (Below w7.heap.size w7)):=⟨⟨_,hS⟩⟩
   obtain⟨ck,hck⟩:=nmq (chkN g.vars most ls)
   rw[←hck]at C3 C4
   obtain⟨pe,hpe⟩:=nmq (pkErr g most)
   rw[←hpe]
   have e1:(ck==ck)=true:=by simp
   have e2:(pe==pe)=true:=by simp
   have e3:(fa==fa)=true:=by simp
   have e4:(fb==fb)=true:=by simp
   have e5:(fc==fc)=true:=by simp
   clear hk6 k0 up hck hpe
   go_wp2_with fail
   refine wp_region_held (Below w7.heap.size w7) hS (by kernel_rfl) (by kernel_rfl) ?_
   repeat(go_big_quiet_step (first|(go_at_call 9;exact held_call C5.out)|(go_at_call 10;exact held_call C3.out)|(go_at_call 11;exact held_call C4.out)))
   refine wpQuiet_nil ?_
   intro _ hw'
   obtain⟨z,rfl⟩:=hw'
   go_wp2_with fail
   go_ret
   exact⟨by simp,HB6.out.trans (z.h.mono HB6.out.size)⟩
end Go.Proofs.Ytphlnpaikpjakaa
