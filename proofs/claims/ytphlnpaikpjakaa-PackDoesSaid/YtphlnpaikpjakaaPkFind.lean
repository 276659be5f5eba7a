/-
  pack.Find: the pack of a scalar, and its place there.
-/
import Derived.Test.YtphlnpaikpjakaaPkState
import Derived.Test.YtphlnpaikpjakaaShelf
set_option linter.unusedVariables false
set_option linter.unusedSimpArgs false
set_option maxHeartbeats 1600000
namespace Go.Proofs.Ytphlnpaikpjakaa
open Go.RowKit Go.Shelf

def idxR (p:List Int→Bool) (ls:List (List Int)):Int:=if ls.any p then(ls.findIdx p:Int)else -1
theorem idxR_at {p:List Int→Bool} {ls:List (List Int)} {k:Nat} {l:List Int} (h:ls[k]?=some l) (hp:p l=true) (hb:∀j l',j < k→ls[j]?=some l'→p l'=false):idxR p ls=(k:Int):=by
 have hk:=(List.getElem?_eq_some_iff.1 h)
 obtain⟨hk1,hk2⟩:=hk
 have ha:ls.any p=true:=List.any_eq_true.2 ⟨l,List.mem_of_getElem? h,hp⟩
 have hf:ls.findIdx p=k:=by
  rw[List.findIdx_eq hk1]
  exact⟨by rw[hk2];exact hp,fun j hj=>hb j _ hj (List.getElem?_eq_getElem (by omega))⟩
 unfold idxR
 rw[ha,hf]
 rfl
theorem idxR_no {p:List Int→Bool} {ls:List (List Int)} (hb:∀(j:Nat) (l':List Int),ls[j]?=some l'→p l'=false):idxR p ls= -1:=by
 have ha:ls.any p=false:=by
  rw[List.any_eq_false]
  intro l hl
  obtain⟨j,hj⟩:=List.getElem?_of_mem hl
  rw[hb j l hj];simp
 unfold idxR
 rw[ha]
 rfl
theorem contains_sl (l:List Int) (A:Option Addr) (c:Nat) (n:Int) (w:World) {B:Nat} (hs:IsSl w B l A c):Calls Try.prog 23 #[.slice A l.length c,.int .i64 n] w fun e w'=>e= .returned (.bool (l.contains n))∧w'=w:=by
 by_cases h0:0 < l.length
 ·obtain⟨b,o,rfl,hb,ha⟩:=hs.2.2 h0
  have h:=Try.slices_Contains_int b o l.length c l n w (lrq _) (leq9 hs.1 hs.2.1) (fun j hj=>by
   rw[List.getD_eq_getElem?_getD,List.getElem?_eq_getElem hj]
   exact(ha j _ (List.getElem?_eq_getElem hj)).1)
  rw[List.take_length]at h
  exact h
 ·obtain rfl:l= []:=List.length_eq_zero_iff.1 (by omega)
  exact Try.slices_Contains_int_empty A c n w
theorem index_sl (l:List Int) (A:Option Addr) (c:Nat) (n:Int) (w:World) {B:Nat} (hs:IsSl w B l A c):Calls Try.prog 24 #[.slice A l.length c,.int .i64 n] w fun e w'=>e= .returned (.int .i64 (Lib.idxOf l n))∧w'=w:=by
 by_cases h0:0 < l.length
 ·obtain⟨b,o,rfl,hb,ha⟩:=hs.2.2 h0
  have h:=Try.slices_Index_int b o l.length c l n w (lrq _) (leq9 hs.1 hs.2.1) (fun j hj=>by
   rw[List.getD_eq_getElem?_getD,List.getElem?_eq_getElem hj]
   exact(ha j _ (List.getElem?_eq_getElem hj)).1)
  rw[List.take_length]at h
  exact h
 ·obtain rfl:l= []:=List.length_eq_zero_iff.1 (by omega)
  exact Try.slices_Index_int_empty A c n w
set_option maxRecDepth 100000 in
theorem idx_rows (p:List Int→Bool) (ls:List (List Int)) (y:Value) (g:Nat) (cap:Array Value) (w:World) (B:Nat) (hx:LsM w B ls y) (hent:Enters Try.prog g)
  (hask:∀(l:List Int) (A:Option Addr) (c:Nat),IsSl w B l A c→Calls Try.prog g (#[.slice A l.length c]++cap) w fun e w'=>e= .returned (.bool (p l))∧w'=w):
  Calls Try.prog 21 #[y,.func (.func g) #[] cap] w fun e w'=>e= .returned (.int .i64 (idxR p ls))∧w'=w:=by
 obtain⟨A,c,rfl,h1,h2,h3⟩:=hx
 have HA:=hdq hask
 have HX:=hdq h3
 obtain⟨m,hm⟩:=nmq ls.length
 rw[←hm]at h1 ⊢
 have HM:=hdq hm
 clear hask h3 hm
 unfold Enters at hent
 go_enter Try.func21,Try.ntmps21
 go_wp2_with fail
 go_loop [8] (fun i=>∃k:Nat,k≤m∧i= .int .i64 k∧Hid (∀(j:Nat) (l':List Int),j < k→ls[j]?=some l'→p l'=false)) (fun i=>m - (intOf i).toNat)
 case atStart=>exact⟨0,Nat.zero_le _,rfl,hdq fun j l' hj=>absurd hj (by omega)⟩
 case round=>
  obtain⟨k,hk,rfl,hall⟩:=hrel
  by_cases hlt:k < m
  ·obtain⟨l,hl⟩:∃l,ls[k]?=some l:=⟨_,List.getElem?_eq_getElem (by rw[←HM.out];exact hlt)⟩
   obtain⟨b,o,rfl,hb,hat⟩:=HX.out (by rw[←HM.out];omega)
   obtain⟨A',c',c0,hs⟩:=hat k l hl
   have HC:=hdq (HA.out l A' c' hs)
   have HL:=hdq hl
   have HALL:=hdq hall.out
   clear hl hat hall hs
   go_wp2_with fail
   refine HC.out.mono ?_
   rintro _ w1 ⟨rfl,rfl⟩
   cases hp:p l
   ·have HN:=hdq (show ∀(j:Nat) (l':List Int),j < k+1→ls[j]?=some l'→p l'=false from fun j l' hj hl'=>by
     by_cases hjk:j < k
     ·exact HALL.out j l' hjk hl'
     ·obtain rfl:j=k:=by omega
      rw[HL.out]at hl'
      cases hl'
      exact hp)
    clear hp
    go_wp2_with fail
    go_round
    case rel=>exact⟨k+1,by omega,by go_num,HN⟩
    case measure=>simp[intOf];omega
   ·have HF:=hdq (idxR_at HL.out hp HALL.out)
    clear hp
    go_wp2_with fail
    go_ret
    exact⟨by rw[HF.out];rfl,rfl⟩
  ·have HF:=hdq (idxR_no (p:=p) (ls:=ls) fun j l' hl'=>hall.out j l' (by have:=(List.getElem?_eq_some_iff.1 hl').1;rw[←HM.out]at this;omega) hl')
   clear hall
   go_wp2_with fail
   go_ret
   exact⟨by rw[HF.out];rfl,rfl⟩
theorem find1_any (l:List Int) (A:Option Addr) (c:Nat) (n:Int) (G:Nat) (w:World) {B:Nat} (hs:IsSl w B l A c) (hG:w.cell? ⟨G,0,none⟩=some (.int .i64 n)) (hl:G < w.heap.size):
  Calls Try.prog 22 #[.slice A l.length c,.pointer (some ⟨G,0,none⟩)] w fun e w'=>e= .returned (.bool (l.contains n))∧w'=w:=by
 have hc:=contains_sl l A c n w hs
 obtain⟨bb,hbb⟩:=nmq (l.contains n)
 rw[←hbb]at hc ⊢
 have HC:=hdq hc
 clear hc hbb
 go_enter Try.func22,Try.ntmps22
 go_wp2_with fail
 go_at_call 23
 refine HC.out.mono ?_
 rintro _ _ ⟨rfl,rfl⟩
 go_wp2_with fail
 go_ret
 exact⟨rfl,rfl⟩
def findE (ls:List (List Int)) (n:Int):Ending:=
 if ls.any (fun l=>l.contains n)then .returned (.tuple #[.int .i64 (ls.findIdx fun l=>l.contains n),.int .i64 (Lib.idxOf (ls.getD (ls.findIdx fun l=>l.contains n) []) n),.int .i64 0])else .returned (.tuple #[.int .i64 0,.int .i64 0,.int .i64 6])
theorem find_any (ls:List (List Int)) (y:Value) (n:Int) (w:World) (hx:LsM w w.heap.size ls y):
  Calls Try.prog 7 #[y,.int .i64 n] w fun e w'=>e=findE ls n∧Below w.heap.size w w':=by
 obtain⟨A,c,rfl,h1,h2,h3⟩:=hx
 obtain⟨m,hm⟩:=nmq ls.length
 rw[←hm]at h1 ⊢
 have HX:=hdq h3
 have HM:=hdq hm
 clear h3 hm
 go_enter Try.func7,Try.ntmps7
 obtain⟨w1,hw1⟩:=nmq (w.alloc (.cells #[.int .i64 n] 3))
 have hsame:Same w.heap.size w w1:=by rw[hw1];exact Same.of ((Below.refl _ _).alloc (lrq _) _) (lrq _)
 have hx1:LsM w1 w.heap.size ls (.slice A m c):=⟨A,c,by rw[HM.out],by rw[←HM.out];exact h1,h2,fun hp=>by
  obtain⟨b,o,e,hb,hat⟩:=HX.out hp
  refine⟨b,o,e,hb,fun i l hi=>?_⟩
  obtain⟨A',c',h4,h5⟩:=hat i l hi
  exact⟨A',c',(hsame _ hb).trans h4,h5.keep hsame⟩⟩
 have hb1:Bk w1 w.heap.size 3 #[.int .i64 n]:=by rw[hw1];exact Bk.new _ _ _
 have hI:=idx_rows (fun l=>l.contains n) ls (.slice A m c) 22 #[.pointer (some ⟨w.heap.size,0,none⟩)] w1 w.heap.size hx1 (enters_of Try.func22 (by kernel_rfl) rfl) (fun l A' c' hs=>find1_any l A' c' n w.heap.size w1 hs (by rw[hb1.cell 0];rfl) hb1.lt)
 have HI:=hdq hI
 have HX1:=hdq hx1
 have HB1:=hdq (show Below w.heap.size w w1 from by rw[hw1];exact(Below.refl _ _).alloc (lrq _) _)
 have HW1:=hdq hw1
 have HK1:=hdq hb1
 clear hw1 hsame hx1 hb1 hI
 have hz:(ls.any (fun l=>l.contains n)=false∧idxR (fun l=>l.contains n) ls= -1∧findE ls n= .returned (.tuple #[.int .i64 0,.int .i64 0,.int .i64 6]))∨
   ∃(k:Nat) (l:List Int),ls[k]?=some l∧idxR (fun l=>l.contains n) ls=(k:Int)∧findE ls n= .returned (.tuple #[.int .i64 (k:Int),.int .i64 (Lib.idxOf l n),.int .i64 0]):=by
  cases ha:ls.any (fun l=>l.contains n)
  ·exact .inl ⟨rfl,by unfold idxR;rw[ha];rfl,by unfold findE;rw[ha];rfl⟩
  ·have hk:ls.findIdx (fun l=>l.contains n) < ls.length:=List.findIdx_lt_length.2 (List.any_eq_true.1 ha)
   refine .inr ⟨_,_,List.getElem?_eq_getElem hk,by unfold idxR;rw[ha];rfl,?_⟩
   unfold findE
   rw[ha,List.getD_eq_getElem?_getD,List.getElem?_eq_getElem hk]
   rfl
 obtain⟨z,hzz⟩:=nmq (idxR (fun l=>l.contains n) ls)
 rw[←hzz]at hz HI
 obtain⟨F,hF⟩:=nmq (findE ls n)
 rw[←hF]at hz ⊢
 clear hzz hF
 rcases hz with⟨_,rfl,hFe⟩|⟨k,l,hl,rfl,hFe⟩
 ·have HFE:=hdq hFe
  clear hFe
  go_wp2_with fail
  go_at_call 21
  rw[←HW1.out]
  refine HI.out.mono ?_
  rintro _ _ ⟨rfl,rfl⟩
  go_wp2_with fail
  go_ret3
  exact⟨by rw[HFE.out];rfl,HB1.out⟩
 ·have HFE:=hdq hFe
  have hkm:k < m:=by have:=(List.getElem?_eq_some_iff.1 hl).1;rw[HM.out];exact this
  obtain⟨A2,c2,hA2,_,_,hrow⟩:=HX1.out
  obtain⟨b,o,rfl,hb,hat⟩:=HX.out (by rw[←HM.out];omega)
  cases hA2
  obtain⟨b',o',e',hb',hat'⟩:=hrow (by rw[←HM.out];omega)
  cases e'
  obtain⟨A',c',r0,hs⟩:=hat' k l hl
  have rl:b < w1.heap.size:=ltq hb HB1.out.size
  have gc:=HK1.out.cell 0
  have gl:=HK1.out.lt
  simp only[List.getElem?_toArray,List.getElem?_cons_zero]at gc
  have HCA:=hdq (show ∀q,Calls Try.prog 24 #[.slice A' l.length c',.int .i64 n] (w1.drewN q) fun e w'=>e= .returned (.int .i64 (Lib.idxOf l n))∧w1.drewN q=w' from fun q=>(index_sl l A' c' n (w1.drewN q) (hs.keep (w':=w1.drewN q) (fun p hp=>rfl))).mono fun _ _ h=>⟨h.1,h.2.symm⟩)
  clear hFe hl hat hat' hrow hs
  go_wp2_with fail
  go_at_call 21
  rw[←HW1.out]
  refine HI.out.mono ?_
  rintro _ w3 ⟨rfl,rfl⟩
  go_wp2_with fail
  go_quiet ((go_at_call 24;exact quiet_left (HCA.out _)))
  go_wp2_with fail
  go_ret3
  exact⟨by rw[HFE.out];rfl,⟨HB1.out.os,HB1.out.tape,HB1.out.output,HB1.out.size,HB1.out.block⟩⟩
end Go.Proofs.Ytphlnpaikpjakaa
