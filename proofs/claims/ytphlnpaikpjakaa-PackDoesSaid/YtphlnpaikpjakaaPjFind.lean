/-
  facetroomref26.Find, Same, Packs.
-/
import Derived.Test.YtphlnpaikpjakaaPjOf
import Derived.Test.YtphlnpaikpjakaaFlRJ
set_option linter.unusedVariables false
set_option linter.unusedSimpArgs false
namespace Go.Proofs.Ytphlnpaikpjakaa
open Go.RowKit Go.Shelf

theorem EdAt.rise7 {w:World} {B B':Nat} (hB:B≤B'):∀ {l:List Ed} {b o:Nat},EdAt w B l b o→EdAt w B' l b o
 | [],_,_,_=>trivial
 |e::r,b,o,h=>by
  obtain⟨hb,h0,h1,h2,h3,h4,⟨A,c,h5,hs⟩,h6,hok,hr⟩:=h
  exact⟨ltq hb hB,h0,h1,h2,h3,h4,⟨A,c,h5,hs.more hB⟩,h6,hok,EdAt.rise7 hB hr⟩
theorem GrSl.rise7 {w:World} {B B':Nat} {g:Gr} {Aa:Option Addr} {ca:Nat} {Ae:Option Addr} {ce:Nat} (h:GrSl w B g Aa ca Ae ce) (hB:B≤B'):GrSl w B' g Aa ca Ae ce:=
 ⟨⟨h.arrays.1,h.arrays.2.1,fun hp=>by obtain⟨b,o,e,hh⟩:=h.arrays.2.2 hp;exact⟨b,o,e,ltq hh.1 hB,hh.2⟩⟩,⟨h.edges.1,h.edges.2.1,fun hp=>by obtain⟨b,o,e,hh⟩:=h.edges.2.2 hp;exact⟨b,o,e,hh.rise7 hB⟩⟩⟩
theorem vars_few7 {g:Gr} (h:mayG g=true):0≤g.vars∧g.vars≤32:=by
 unfold mayG at h
 simp only[Bool.and_eq_true,Bool.not_eq_true']at h
 have h1:=(Bool.or_eq_false_iff.1 h.1.1).1
 unfold odd1 at h1
 simp only[Bool.or_eq_false_iff,decide_eq_false_iff_not]at h1
 omega
theorem findE_at {ls:List (List Int)} {n:Int} {i j:Nat} {l:List Int} (hl:ls[i]?=some l) (hj:l[j]?=some n) (hb:∀(a:Nat) (l':List Int),a < i→ls[a]?=some l'→l'.contains n=false) (hc:∀(b:Nat) (x:Int),b < j→l[b]?=some x→x≠n):
  findE ls n= .returned (.tuple #[.int .i64 (i:Int),.int .i64 (j:Int),.int .i64 0]):=by
 have hcon:l.contains n=true:=by simpa using List.mem_of_getElem? hj
 have hx:=idxR_at (p:=fun l=>l.contains n) hl hcon hb
 have ha:ls.any (fun l=>l.contains n)=true:=List.any_eq_true.2 ⟨l,List.mem_of_getElem? hl,hcon⟩
 have hix:ls.findIdx (fun l=>l.contains n)=i:=by
  unfold idxR at hx
  rw[ha,if_pos rfl]at hx
  exact Int.ofNat_inj.1 hx
 obtain⟨hjl,hje⟩:=List.getElem?_eq_some_iff.1 hj
 have hid:Lib.idxOf l n=(j:Int):=by
  have h:=Lib.idxOf_hit l l.length j n hjl (lrq _) (by rw[List.getD_eq_getElem?_getD,hj];rfl) (fun b hb=>by
   rw[List.getD_eq_getElem?_getD,List.getElem?_eq_getElem (by omega)]
   exact hc b _ hb (List.getElem?_eq_getElem (by omega)))
  rwa [List.take_length]at h
 unfold findE
 rw[ha,hix,List.getD_eq_getElem?_getD,hl]
 show Ending.returned (.tuple #[.int .i64 (i:Int),.int .i64 (Lib.idxOf l n),.int .i64 0])=_
 rw[hid]
theorem findE_no {ls:List (List Int)} {n:Int} (hb:∀(a:Nat) (l':List Int),ls[a]?=some l'→l'.contains n=false):findE ls n= .returned (.tuple #[.int .i64 0,.int .i64 0,.int .i64 6]):=by
 have ha:ls.any (fun l=>l.contains n)=false:=by
  rw[List.any_eq_false]
  intro l hl
  obtain⟨j,hj⟩:=List.getElem?_of_mem hl
  rw[hb j l hj];simp
 unfold findE
 rw[ha]
 rfl
set_option maxRecDepth 100000 in
set_option maxHeartbeats 1600000 in
theorem findR_any (ls:List (List Int)) (y:Value) (n:Int) (w:World) (hx:LsM w w.heap.size ls y):Calls Try.prog 8 #[y,.int .i64 n] w fun e w'=>e=findE ls n∧w'=w:=by
 obtain⟨A,c,rfl,h1,h2,h3⟩:=hx
 obtain⟨m,hm⟩:=nmq ls.length
 rw[←hm]at h1 ⊢
 have HX:=hdq h3
 have HM:=hdq hm
 obtain⟨Z,hZ⟩:=nmq (findE ls n)
 rw[←hZ]
 have HZ:=hdq hZ
 clear h3 hm hZ
 go_enter Try.func8,Try.ntmps8
 go_wp2_with fail
 go_loop [7] (fun i=>∃k:Nat,k≤m∧i= .int .i64 k∧Hid (∀(a:Nat) (l':List Int),a < k→ls[a]?=some l'→l'.contains n=false)) (fun i=>m - (intOf i).toNat)
 case atStart=>exact⟨0,Nat.zero_le _,rfl,hdq fun a l' ha=>absurd ha (by omega)⟩
 case round=>
  obtain⟨k,hk,rfl,hall⟩:=hrel
  by_cases hlt:k < m
  ·obtain⟨l,hl⟩:∃l,ls[k]?=some l:=⟨_,List.getElem?_eq_getElem (by rw[←HM.out];exact hlt)⟩
   obtain⟨b,o,rfl,hb,hat⟩:=HX.out (by rw[←HM.out];omega)
   obtain⟨A',c',c0,hs⟩:=hat k l hl
   obtain⟨nl,hnl⟩:=nmq l.length
   rw[←hnl]at c0
   have hnc:nl≤9223372036854775807:=by rw[hnl];exact leq9 hs.1 hs.2.1
   have HL:=hdq hl
   have HNL:=hdq hnl
   have HS:=hdq hs
   have HALL:=hdq hall.out
   clear hl hnl hs hat hall
   go_wp2_with fail
   go_loop [8] (fun i=>∃q:Nat,q≤nl∧i= .int .i64 q∧Hid (∀(b:Nat) (x:Int),b < q→l[b]?=some x→x≠n)) (fun i=>nl - (intOf i).toNat)
   case atStart=>exact⟨0,Nat.zero_le _,rfl,hdq fun a l' ha=>absurd ha (by omega)⟩
   case round=>
    obtain⟨q,hq,rfl,hall2⟩:=hrel
    by_cases hlt2:q < nl
    ·obtain⟨b',o',rfl,hb',hat'⟩:=HS.out.2.2 (by rw[←HNL.out];omega)
     obtain⟨x,hx⟩:∃x,l[q]?=some x:=⟨_,List.getElem?_eq_getElem (by rw[←HNL.out];exact hlt2)⟩
     have d0:=(hat' q x hx).1
     by_cases hxn:x=n
     ·subst hxn
      have HF:=hdq (show Z=_ from HZ.out.trans (findE_at HL.out hx HALL.out hall2.out))
      clear hat' hx hall2
      go_wp2_with fail
      go_ret3
      exact⟨by rw[HF.out];rfl,rfl⟩
     ·have HN:=hdq (show ∀(b:Nat) (z:Int),b < q+1→l[b]?=some z→z≠n from fun b z hb hz=>by
       by_cases hbq:b < q
       ·exact hall2.out b z hbq hz
       ·obtain rfl:b=q:=by omega
        rw[hx]at hz
        rw[←Option.some.inj hz]
        exact hxn)
      clear hat' hx hall2
      go_wp2_with fail
      go_round
      case rel=>exact⟨q+1,by omega,by go_num,HN⟩
      case measure=>simp[intOf];omega
    ·have HN:=hdq (show ∀(a:Nat) (l':List Int),a < k+1→ls[a]?=some l'→l'.contains n=false from fun a l' ha hl'=>by
      by_cases hak:a < k
      ·exact HALL.out a l' hak hl'
      ·obtain rfl:a=k:=by omega
       rw[HL.out]at hl'
       obtain rfl:=Option.some.inj hl'
       rw[Bool.eq_false_iff]
       intro hc
       have hc:n∈l:=by simpa using hc
       obtain⟨j,hj⟩:=List.getElem?_of_mem hc
       exact hall2.out j n (by have:=(List.getElem?_eq_some_iff.1 hj).1;rw[←HNL.out]at this;omega) hj rfl)
     clear hall2
     go_wp2_with fail
     go_round
     case rel=>exact⟨k+1,by omega,by go_num,HN⟩
     case measure=>simp[intOf];omega
  ·have HF:=hdq (show Z=_ from HZ.out.trans (findE_no fun a l' hl'=>hall.out a l' (by have:=(List.getElem?_eq_some_iff.1 hl').1;rw[←HM.out]at this;omega) hl'))
   clear hall
   go_wp2_with fail
   go_ret3
   exact⟨by rw[HF.out];rfl,rfl⟩
theorem sameR_any (ls:List (List Int)) (y y':Value) (w:World) (B:Nat) (hB:B≤w.heap.size) (hx:LsM w B ls y) (hy:LsM w B ls y'):Calls Try.prog 9 #[y,y'] w (QPost true w):=by
 obtain⟨A,c,rfl,h1,h2,h3⟩:=hx
 obtain⟨A',c',rfl,h1',h2',h3'⟩:=hy
 obtain⟨m,hm⟩:=nmq ls.length
 rw[←hm]at h1 h1' ⊢
 have HX:=hdq h3
 have HY:=hdq h3'
 have HM:=hdq hm
 clear h3 h3' hm
 go_enter Try.func9,Try.ntmps9
 go_wp2_with fail
 go_loopw [5] (fun i wr=>∃k:Nat,k≤m∧i= .int .i64 k∧Hid (∃q,wr=w.drewN q)) (fun i _=>m - (intOf i).toNat)
 case atStart=>exact⟨0,Nat.zero_le _,rfl,0,rfl⟩
 case round=>
  obtain⟨k,hk,rfl,hq⟩:=hrel
  by_cases hlt:k < m
  ·have hsm:Same B w wr:=by obtain⟨q,hq⟩:=hq.out;rw[hq];exact same_drewN _ _ _
   have hsz:wr.heap.size=w.heap.size:=by obtain⟨q,hq⟩:=hq.out;rw[hq];rfl
   obtain⟨l,hl⟩:∃l,ls[k]?=some l:=⟨_,List.getElem?_eq_getElem (by rw[←HM.out];exact hlt)⟩
   obtain⟨b,o,rfl,hb,hat⟩:=HX.out (by rw[←HM.out];omega)
   obtain⟨b',o',rfl,hb',hat'⟩:=HY.out (by rw[←HM.out];omega)
   obtain⟨A1,c1,c0,hs⟩:=hat k l hl
   obtain⟨A2,c2,d0,hs'⟩:=hat' k l hl
   have e0:=(hsm ⟨b,o+k,none⟩ hb).trans c0
   have e1:=(hsm ⟨b',o'+k,none⟩ hb').trans d0
   have el:b < wr.heap.size:=by omega
   have el':b' < wr.heap.size:=by omega
   have hlt':((k:Nat):Int) < (m:Int):=by omega
   have hge:(0:Int)≤((k:Nat):Int):=by omega
   have hr:=fun(r:Nat)=>rints_any l l A1 A2 c1 c2 (wr.drewN r) B (hs.keep (fun p hp=>hsm p hp)) (hs'.keep (fun p hp=>hsm p hp))
   rw[show(l==l)=true from by simp]at hr
   have HR:=hdq hr
   clear hl hat hat' hs hs' c0 d0 hr hsm hsz
   go_wp2_with fail
   go_quiet ((go_at_call 25;exact quiet_more (HR.out _)))
   go_wp2_with fail
   go_roundw
   case rel=>exact⟨k+1,by omega,by go_num,by obtain⟨q,hq⟩:=hq.out;exact⟨_,by rw[hq,World.drewN_drewN]⟩⟩
   case measure=>simp[intOf];omega
  ·go_wp2_with fail
   go_ret
   exact⟨rfl,hq.out⟩
theorem packsR_any (g:Gr) (Aa Ae:Option Addr) (ca ce:Nat) (most:Int) (w:World) (hg:GrSl w w.heap.size g Aa ca Ae ce) (hsc:∀e∈g.edges,(scalE e).length ≤100000):
  Calls Try.prog 6 #[grV g.vars Aa g.arrays.length ca g.nodes g.start g.last Ae g.edges.length ce,.int .i64 most] w (PacksP g most w):=by
 have hup:∀W:World,Below w.heap.size w W→GrSl W W.heap.size g Aa ca Ae ce:=fun W hf=>(hg.keep (Same.of hf (lrq _))).rise7 hf.size
 have hmy:=fun(W:World) (hf:Below w.heap.size w W)=>rmay_any g Aa Ae ca ce W.heap.size W (lrq _) (hup W hf)
 have hof:=fun(W:World) (v:Nat) (hf:Below w.heap.size w W) (hv:g.vars=(v:Int)) (hv32:v≤32) (hm:mayG g=true) (h1:1≤most)=>ofR_any g Aa Ae ca ce v most W (hup W hf) hv hv32 hm h1 hsc
 unfold grV at hmy hof ⊢
 obtain⟨na,hna⟩:=nmq g.arrays.length
 obtain⟨ne,hne⟩:=nmq g.edges.length
 rw[←hna,←hne]at hmy hof ⊢
 obtain⟨w1,hw1⟩:=nmq (w.alloc (.cells #[.int .i64 g.vars,.slice Aa na ca,.int .i64 g.nodes,.int .i64 g.start,.int .i64 g.last,.slice Ae ne ce] 25))
 have hb1:Below w.heap.size w w1:=by rw[hw1];exact(Below.refl _ _).alloc (lrq _) _
 have hk1:Bk w1 w.heap.size 25 #[.int .i64 g.vars,.slice Aa na ca,.int .i64 g.nodes,.int .i64 g.start,.int .i64 g.last,.slice Ae ne ce]:=by rw[hw1];exact Bk.new _ _ _
 have HMY:=hdq (hmy w1 hb1)
 have HOF:=hdq hof
 have HW1:=hdq hw1
 have HB1:=hdq hb1
 have HK1:=hdq hk1
 clear hg hmy hof hup hna hne hw1 hb1 hk1 hsc
 obtain⟨mb,hmb⟩:=nmq (mayG g)
 rw[←hmb]at HMY
 have HMB:=hdq hmb
 clear hmb
 go_enter Try.func6,Try.ntmps6
 go_wp2_with fail
 rw[←HW1.out]
 refine HMY.out.mono ?_
 rintro _ w2 ⟨rfl,hb2⟩
 have hfr:Fr NoT w1 w2:=Fr.below hb2
 have hk2:=HK1.out.fr0 hfr
 have gc0:=hk2.cell 0
 have gc1:=hk2.cell 1
 have gc2:=hk2.cell 2
 have gc3:=hk2.cell 3
 have gc4:=hk2.cell 4
 have gc5:=hk2.cell 5
 have gl:=hk2.lt
 simp only[List.getElem?_toArray,List.getElem?_cons_succ,List.getElem?_cons_zero]at gc0 gc1 gc2 gc3 gc4 gc5
 have HB2:=hdq (HB1.out.trans (hb2.mono HB1.out.size))
 clear hb2 hfr hk2
 cases mb
 ·go_wp2_with fail
  go_ret2
  exact .inl ⟨HMB.out.symm,rfl,HB2.out⟩
 by_cases h1:most < 1
 ·go_wp2_with fail
  go_ret2
  exact .inr (.inl ⟨HMB.out.symm,.inl h1,rfl,HB2.out⟩)
 by_cases h2:6 < most
 ·go_wp2_with fail
  go_ret2
  exact .inr (.inl ⟨HMB.out.symm,.inr h2,rfl,HB2.out⟩)
 obtain⟨hv0,hv32⟩:=vars_few7 HMB.out.symm
 have HC:=hdq (HOF.out w2 g.vars.toNat HB2.out (by omega) (by omega) HMB.out.symm (by omega))
 have HVT:=hdq (show g.vars=((g.vars.toNat:Nat):Int) by omega)
 obtain⟨vt,hvt⟩:=nmq g.vars.toNat
 rw[←hvt]at HC HVT
 clear hvt hv0 hv32
 go_wp2_with fail
 go_at_call 20
 refine HC.out.mono ?_
 rintro _ w3 ⟨u,rfl,hls,hb3⟩
 have HL:=hdq hls
 have HB3:=hdq (HB2.out.trans (hb3.mono HB2.out.size))
 clear hls hb3
 go_wp2_with fail
 go_ret2
 exact .inr (.inr ⟨HMB.out.symm,by omega,by omega,vt,u,HVT.out,rfl,HL.out,HB3.out⟩)
end Go.Proofs.Ytphlnpaikpjakaa
