/-
  Rows of numbers that are equal; when graphs are the same (pure).
-/
import Derived.Test.YtobegfbdedgmpaaGreatDoorJnCk3
import Derived.Test.YtobegfbdedgmpaaGreatDoorShelf
import Derived.BigQuiet
import Derived.Test.YtobegfbdedgmpaaGreatDoorJgSv
set_option linter.unusedVariables false
set_option linter.unusedSimpArgs false
namespace Go.Proofs.YtobegfbdedgmpaaGreatDoor
open Go.RowKit Go.Shelf

theorem zkb (l l':List Int) (A A':Option Addr) (c c':Nat) (w:World) (B:Nat) (hx:IsSl w B l A c) (hy:IsSl w B l' A' c'):
  Calls Tryz.prog 82 #[.slice A l.length c,.slice A' l'.length c'] w (zae (l==l') w):=by
 have hl:=Nat.le_trans hx.1 hx.2.1
 have hl':=Nat.le_trans hy.1 hy.2.1
 by_cases hlen:l.length=l'.length
 ·by_cases h0:l.length=0
  ·have e1:l= []:=List.length_eq_zero_iff.1 h0
   have e2:l'= []:=List.length_eq_zero_iff.1 (hlen▸h0)
   subst e1;subst e2
   exact(Tryz.slices_Equal_int_empty A A' c 0 c' w (by omega)).mono fun _ _ h=>⟨h.1,h.2▸Below.refl _ _⟩
  ·obtain⟨b,o,rfl,hat⟩:=hx.2.2 (by omega)
   obtain⟨b',o',rfl,hat'⟩:=hy.2.2 (by omega)
   refine(Tryz.slices_Equal_int b o l.length c b' o' l'.length c' l l' w (Nat.le_refl _) (Nat.le_refl _) hl hl' (fun j hj=>?_) (fun j hj=>?_)).mono fun _ _ h=>⟨by simpa using h.1,by obtain⟨q,rfl⟩:=h.2;exact below_drewN (Below.refl _ _) _⟩
   ·rw[(hat.2 j _ (List.getElem?_eq_getElem hj)).1]
    simp[List.getD,hj]
   ·rw[(hat'.2 j _ (List.getElem?_eq_getElem hj)).1]
    simp[List.getD,hj]
 ·have hne:(l==l')=false:=by
   rw[beq_eq_false_iff_ne]
   exact fun e=>hlen (by rw[e])
  rw[hne]
  exact(Tryz.slices_Equal_int_lens A A' l.length c l'.length c' w hlen).mono fun _ _ h=>⟨h.1,h.2▸Below.refl _ _⟩

theorem zio {α:Type} [BEq α] {l l':List α} {k:Nat} {a b:α} (ha:l[k]?=some a) (hb:l'[k]?=some b):(l.drop k==l'.drop k)=((a==b)&&(l.drop (k+1)==l'.drop (k+1))):=by
 obtain⟨h1,rfl⟩:=List.getElem?_eq_some_iff.1 ha
 obtain⟨h2,rfl⟩:=List.getElem?_eq_some_iff.1 hb
 rw[List.drop_eq_getElem_cons h1,List.drop_eq_getElem_cons h2]
 rfl
theorem zkc (l l':List Int) (A A':Option Addr) (c c':Nat) (w:World) (B:Nat) (hx:IsSl w B l A c) (hy:IsSl w B l' A' c'):
  Calls Tryz.prog 84 #[.slice A l.length c,.slice A' l'.length c'] w (zae (l==l') w):=by
 have H:=hdq (zkb l l' A A' c c' w B hx hy)
 obtain⟨b,hb⟩:=nmq ((l==l'))
 obtain⟨m,hm⟩:=nmq l.length
 obtain⟨m',hm'⟩:=nmq l'.length
 rw[←hb,←hm,←hm']at H ⊢
 clear hb hx hy hm hm'
 go_enter Tryz.func84,Tryz.ntmps84
 go_wp2_with fail
 go_at_call 82
 refine H.out.mono ?_
 rintro e w1 ⟨rfl,hb1⟩
 go_wp2_with fail
 go_ret
 exact⟨rfl,hb1⟩
set_option maxHeartbeats 1600000 in
theorem znm (ls ls':List (List Int)) (A A':Option Addr) (c c':Nat) (w:World) (B:Nat) (hB:B≤w.heap.size) (hx:ArSl w B ls A c) (hy:ArSl w B ls' A' c'):
  Calls Tryz.prog 83 #[.slice A ls.length c,.slice A' ls'.length c',.func (.func 84) #[] #[]] w (zae (ls==ls') w):=by
 have hm:ls.length≤9223372036854775807:=Nat.le_trans hx.1 hx.2.1
 have hent:Enters Tryz.prog 84:=enters_of Tryz.func84 (by kernel_rfl) rfl
 unfold Enters at hent
 by_cases hne:ls.length=ls'.length
 ·obtain⟨n,hn⟩:=nmq ls.length
  rw[←hne,←hn]
  rw[←hn]at hm
  have HN:=hdq hn
  have HE:=hdq hne
  have HX:=hdq hx
  have HY:=hdq hy
  clear hn hne hx hy
  go_enter Tryz.func83,Tryz.ntmps83
  go_wp2_with fail
  go_loopw [17] (fun i wr=>∃k:Nat,k≤n∧i= .int .i64 k∧Below w.heap.size w wr∧Hid ((ls==ls')=(ls.drop k==ls'.drop k))) (fun i _=>n - (intOf i).toNat)
  case atStart=>exact⟨0,Nat.zero_le _,rfl,Below.refl _ _,rfl⟩
  case round=>
   obtain⟨k,hk,rfl,hb,hd⟩:=hrel
   by_cases hlt:k < n
   ·have h1:k < ls.length:=by rw[←HN.out];exact hlt
    have h2:k < ls'.length:=by rw[←HE.out,←HN.out];exact hlt
    obtain⟨b,o,rfl,hat⟩:=HX.out.2.2 (by omega)
    obtain⟨b',o',rfl,hat'⟩:=HY.out.2.2 (by omega)
    obtain⟨A3,c3,x3,hs3⟩:=(hat.keep (Same.of hb hB)).2 k _ (List.getElem?_eq_getElem h1)
    obtain⟨A4,c4,x4,hs4⟩:=(hat'.keep (Same.of hb hB)).2 k _ (List.getElem?_eq_getElem h2)
    have hs:=zio (List.getElem?_eq_getElem h1) (List.getElem?_eq_getElem h2)
    have hc:=zkc _ _ _ _ _ _ wr B hs3 hs4
    obtain⟨q,hq⟩:=nmq ((ls[k]==ls'[k]))
    obtain⟨m1,hm1⟩:=nmq (ls[k].length )
    obtain⟨m2,hm2⟩:=nmq (ls'[k].length )
    rw[←hq]at hs
    rw[←hq,←hm1,←hm2]at hc
    rw[←hm1]at x3
    rw[←hm2]at x4
    have HS:=hdq hs
    have HC:=hdq hc
    clear hat hat' hs3 hs4 hs hc hq hm1 hm2 h1 h2
    go_wp2_with fail
    go_at_call 84
    refine HC.out.mono ?_
    rintro e w1 ⟨rfl,hb1⟩
    have hb2:Below w.heap.size w w1:=hb.trans (hb1.mono hb.size)
    cases q with
    |false=>
     have HF:=hdq (show(ls==ls')=false from by rw[hd.out,HS.out];rfl)
     clear hb1 x3 x4
     go_wp2_with fail
     go_ret
     exact⟨by rw[HF.out];rfl,hb2⟩
    |true=>
     have HF:=hdq (show(ls==ls')=(ls.drop (k+1)==ls'.drop (k+1))from by rw[hd.out,HS.out];rfl)
     clear hb1 x3 x4
     go_wp2_with fail
     go_roundw
     case rel=>exact⟨k+1,by omega,by go_num,hb2,HF⟩
     case measure=>simp[intOf];omega
   ·have HF:=hdq (show(ls==ls')=true from by
     rw[hd.out,List.drop_eq_nil_of_le (by rw[←HN.out];omega),List.drop_eq_nil_of_le (by rw[←HE.out,←HN.out];omega)];rfl)
    have HB:=hdq hb
    clear hd hb
    go_wp2_with fail
    go_ret
    exact⟨by rw[HF.out];rfl,HB.out⟩
 ·have HF:=hdq (show(ls==ls')=false from by
   cases h:ls==ls' with
   |false=>rfl
   |true=>exact absurd (by rw[eq_of_beq h]) hne)
  obtain⟨n1,h1⟩:=nmq ls.length
  obtain⟨n2,h2⟩:=nmq ls'.length
  rw[←h1,←h2]at hne ⊢
  have hne2:((n1:Int) != (n2:Int))=true:=by simp;omega
  clear hne h1 h2 hm hx hy
  go_enter Tryz.func83,Tryz.ntmps83
  go_wp2
  go_ret
  exact⟨by rw[HF.out];rfl,Below.refl _ _⟩
end Go.Proofs.YtobegfbdedgmpaaGreatDoor
