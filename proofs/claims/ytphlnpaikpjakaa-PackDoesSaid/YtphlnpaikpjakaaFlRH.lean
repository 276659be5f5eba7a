/-
  facetroomref13.May: which graphs may be, by the document.
-/
import Derived.Test.YtphlnpaikpjakaaFlRG
import Derived.Deep.RegionWith
set_option linter.unusedVariables false
set_option linter.unusedSimpArgs false
set_option maxHeartbeats 6400000
set_option maxRecDepth 100000
namespace Go.Proofs.Ytphlnpaikpjakaa
open Go.RowKit Go.Shelf
theorem allE_drop {α:Type} {p:α→Bool} {l:List α} {i:Nat} {e:α} (he:l[i]?=some e) (hp:p e=true) (h:l.all p=(l.drop i).all p):l.all p=(l.drop (i+1)).all p:=by
 obtain⟨hi,rfl⟩:=List.getElem?_eq_some_iff.1 he
 rw[h,List.drop_eq_getElem_cons hi,List.all_cons,hp,Bool.true_and]
theorem allE_no {α:Type} {p:α→Bool} {l:List α} {i:Nat} {e:α} (he:l[i]?=some e) (hp:p e=false):l.all p=false:=
 List.all_eq_false.2 ⟨e,List.mem_of_getElem? he,by rw[hp];simp⟩
theorem cmp_ok {vars na nodes:Int} {l:List Ed} (h:l.any (edBad vars na nodes)=false):∀a∈l,a.kind=6→3≤a.cmp∧a.cmp≤8:=fun a ha hk=>by
 have h1:=List.any_eq_false.1 h a ha
 simp only[edBad,mayD,Bool.or_eq_true,not_or,Bool.not_eq_true,Bool.not_eq_false',Bool.and_eq_true]at h1
 have h2:=h1.2.1.2
 rw[cmpD,if_pos hk]at h2
 simpa using h2

theorem rmay_head (vars nodes start last:Int) (na ne:Nat) (Aa Ae:Option Addr) (ca ce:Nat) (w:World) (h:headBad vars nodes start last na ne=true) (hl:ne≤9223372036854775807) (hla:na≤9223372036854775807):
  Calls Try.prog 19 #[grV vars Aa na ca nodes start last Ae ne ce] w (BoolPost false w):=by
 unfold headBad odd1 odd2 at h
 unfold grV
 have hbb:∀W,Below (w.heap.size+1) (w.alloc (.cells #[.int .i64 vars,.slice Aa na ca,.int .i64 nodes,.int .i64 start,.int .i64 last,.slice Ae ne ce] 25)) W→Below w.heap.size w W:=fun W h=>((Below.refl _ _).alloc (lrq _) _).trans (h.mono (by simp))
 have hkk:∀W,Below (w.heap.size+1) (w.alloc (.cells #[.int .i64 vars,.slice Aa na ca,.int .i64 nodes,.int .i64 start,.int .i64 last,.slice Ae ne ce] 25)) W→W.cell? ⟨w.heap.size,0,none⟩=some (.int .i64 vars)∧W.cell? ⟨w.heap.size,1,none⟩=some (.slice Aa na ca)∧W.cell? ⟨w.heap.size,2,none⟩=some (.int .i64 nodes)∧W.cell? ⟨w.heap.size,3,none⟩=some (.int .i64 start)∧W.cell? ⟨w.heap.size,4,none⟩=some (.int .i64 last)∧W.cell? ⟨w.heap.size,5,none⟩=some (.slice Ae ne ce):=fun W h=>
  ⟨(h.cell (p:=⟨w.heap.size,0,none⟩) (by simp)).trans (newCell w _ _ 0),(h.cell (p:=⟨w.heap.size,1,none⟩) (by simp)).trans (newCell w _ _ 1),(h.cell (p:=⟨w.heap.size,2,none⟩) (by simp)).trans (newCell w _ _ 2),(h.cell (p:=⟨w.heap.size,3,none⟩) (by simp)).trans (newCell w _ _ 3),(h.cell (p:=⟨w.heap.size,4,none⟩) (by simp)).trans (newCell w _ _ 4),(h.cell (p:=⟨w.heap.size,5,none⟩) (by simp)).trans (newCell w _ _ 5)⟩
 have hww:∀(x:Int) W,Below (w.heap.size+1) (w.alloc (.cells #[.int .i64 vars,.slice Aa na ca,.int .i64 nodes,.int .i64 start,.int .i64 last,.slice Ae ne ce] 25)) W→Calls Try.prog 40 #[.agg #[.int .i64 vars,.slice Aa na ca,.int .i64 nodes,.int .i64 start,.int .i64 last,.slice Ae ne ce],.int .i64 x] W fun e W'=>e= .returned (.bool (decide (0≤x)&&decide (x < nodes)))∧Below (w.heap.size+1) (w.alloc (.cells #[.int .i64 vars,.slice Aa na ca,.int .i64 nodes,.int .i64 start,.int .i64 last,.slice Ae ne ce] 25)) W':=fun x W h=>
  (rwithin_any x vars Aa na ca nodes start last Ae ne ce W).mono fun _ _ h2=>⟨h2.1,h.trans (h2.2.mono (by have:=h.size;simpa using this))⟩
 have HE:=hdq hbb
 have HK:=hdq hkk
 have HW:=hdq hww
 clear hbb hkk hww
 have hB0:Below (w.heap.size+1) (w.alloc (.cells #[.int .i64 vars,.slice Aa na ca,.int .i64 nodes,.int .i64 start,.int .i64 last,.slice Ae ne ce] 25)) (w.alloc (.cells #[.int .i64 vars,.slice Aa na ca,.int .i64 nodes,.int .i64 start,.int .i64 last,.slice Ae ne ce] 25)):=(Below.refl (w.alloc (.cells #[.int .i64 vars,.slice Aa na ca,.int .i64 nodes,.int .i64 start,.int .i64 last,.slice Ae ne ce] 25)).heap.size _).mono (by simp)
 cases h1:decide (vars < 0)
 case true=>
  clear h
  go_enter Try.func19,Try.ntmps19
  go_wp2_with (go_at_call 40;refine(HW.out _ _ (by assumption)).mono ?_;rintro _ _ ⟨rfl,hb1⟩;obtain⟨k0,k1,k2,k3,k4,k5⟩:=HK.out _ hb1)
  go_ret
  exact⟨rfl,HE.out _ (by assumption)⟩
 cases h2:decide (32 < vars)
 case true=>
  clear h
  go_enter Try.func19,Try.ntmps19
  go_wp2_with (go_at_call 40;refine(HW.out _ _ (by assumption)).mono ?_;rintro _ _ ⟨rfl,hb1⟩;obtain⟨k0,k1,k2,k3,k4,k5⟩:=HK.out _ hb1)
  go_ret
  exact⟨rfl,HE.out _ (by assumption)⟩
 cases h3:decide (4 < (na:Int))
 case true=>
  clear h
  go_enter Try.func19,Try.ntmps19
  go_wp2_with (go_at_call 40;refine(HW.out _ _ (by assumption)).mono ?_;rintro _ _ ⟨rfl,hb1⟩;obtain⟨k0,k1,k2,k3,k4,k5⟩:=HK.out _ hb1)
  go_ret
  exact⟨rfl,HE.out _ (by assumption)⟩
 cases h4:decide (nodes < 2)
 case true=>
  clear h
  go_enter Try.func19,Try.ntmps19
  go_wp2_with (go_at_call 40;refine(HW.out _ _ (by assumption)).mono ?_;rintro _ _ ⟨rfl,hb1⟩;obtain⟨k0,k1,k2,k3,k4,k5⟩:=HK.out _ hb1)
  go_ret
  exact⟨rfl,HE.out _ (by assumption)⟩
 cases h5:decide (4096 < nodes)
 case true=>
  clear h
  go_enter Try.func19,Try.ntmps19
  go_wp2_with (go_at_call 40;refine(HW.out _ _ (by assumption)).mono ?_;rintro _ _ ⟨rfl,hb1⟩;obtain⟨k0,k1,k2,k3,k4,k5⟩:=HK.out _ hb1)
  go_ret
  exact⟨rfl,HE.out _ (by assumption)⟩
 cases h6:(decide (0≤start)&&decide (start < nodes))
 case false=>
  clear h
  go_enter Try.func19,Try.ntmps19
  go_wp2_with (go_at_call 40;refine(HW.out _ _ (by assumption)).mono ?_;rintro _ _ ⟨rfl,hb1⟩;obtain⟨k0,k1,k2,k3,k4,k5⟩:=HK.out _ hb1)
  go_ret
  exact⟨rfl,HE.out _ (by assumption)⟩
 cases h7:(decide (0≤last)&&decide (last < nodes))
 case false=>
  clear h
  go_enter Try.func19,Try.ntmps19
  go_wp2_with (go_at_call 40;refine(HW.out _ _ (by assumption)).mono ?_;rintro _ _ ⟨rfl,hb1⟩;obtain⟨k0,k1,k2,k3,k4,k5⟩:=HK.out _ hb1)
  go_ret
  exact⟨rfl,HE.out _ (by assumption)⟩
 cases h8:start==last
 case true=>
  clear h
  go_enter Try.func19,Try.ntmps19
  go_wp2_with (go_at_call 40;refine(HW.out _ _ (by assumption)).mono ?_;rintro _ _ ⟨rfl,hb1⟩;obtain⟨k0,k1,k2,k3,k4,k5⟩:=HK.out _ hb1)
  go_ret
  exact⟨rfl,HE.out _ (by assumption)⟩
 have h9:decide (2048 < (ne:Int))=true:=by
  rw[h1,h2,h3,h4,h5,h6,h7,h8]at h
  simpa using h
 clear h
 go_enter Try.func19,Try.ntmps19
 go_wp2_with (go_at_call 40;refine(HW.out _ _ (by assumption)).mono ?_;rintro _ _ ⟨rfl,hb1⟩;obtain⟨k0,k1,k2,k3,k4,k5⟩:=HK.out _ hb1)
 go_ret
 exact⟨rfl,HE.out _ (by assumption)⟩

theorem rmay_main (vars nodes start last:Int) (arrays:List Int) (l:List Ed) (na ne:Nat) (hna:na=arrays.length) (hne:ne=l.length) (Aa Ae:Option Addr) (ca ce B:Nat) (w:World) (h:headBad vars nodes start last na ne=false) (hl:ne≤9223372036854775807) (hla:na≤9223372036854775807)
  (hB:B≤w.heap.size) (hx:IsSl w B arrays Aa ca) (hy:EdSl w B l Ae ce):
  Calls Try.prog 19 #[grV vars Aa na ca nodes start last Ae ne ce] w (BoolPost (!arrays.any sizeBad&& !l.any (edBad vars na nodes)&&l.all fun e=>rnodeOk l last e.from_) w):=by
 unfold headBad odd1 odd2 at h
 simp only[Bool.or_eq_false_iff,Bool.not_eq_eq_eq_not,Bool.not_false]at h
 obtain⟨⟨⟨⟨⟨⟨h1,h2⟩,h3⟩,h4⟩,h5⟩,h9⟩,⟨⟨⟨h6,h7⟩,h8⟩,_⟩⟩:=h
 have HX:=hdq hx
 have HY:=hdq hy
 have HNA:=hdq hna
 have HNE:=hdq hne
 have h2048:ne≤2048:=by simp at h9;omega
 clear hx hy hna hne
 unfold grV
 have hbb:∀W,Below (w.heap.size+1) (w.alloc (.cells #[.int .i64 vars,.slice Aa na ca,.int .i64 nodes,.int .i64 start,.int .i64 last,.slice Ae ne ce] 25)) W→Below w.heap.size w W:=fun W h=>((Below.refl _ _).alloc (lrq _) _).trans (h.mono (by simp))
 have hkk:∀W,Below (w.heap.size+1) (w.alloc (.cells #[.int .i64 vars,.slice Aa na ca,.int .i64 nodes,.int .i64 start,.int .i64 last,.slice Ae ne ce] 25)) W→W.cell? ⟨w.heap.size,0,none⟩=some (.int .i64 vars)∧W.cell? ⟨w.heap.size,1,none⟩=some (.slice Aa na ca)∧W.cell? ⟨w.heap.size,2,none⟩=some (.int .i64 nodes)∧W.cell? ⟨w.heap.size,3,none⟩=some (.int .i64 start)∧W.cell? ⟨w.heap.size,4,none⟩=some (.int .i64 last)∧W.cell? ⟨w.heap.size,5,none⟩=some (.slice Ae ne ce):=fun W h=>
  ⟨(h.cell (p:=⟨w.heap.size,0,none⟩) (by simp)).trans (newCell w _ _ 0),(h.cell (p:=⟨w.heap.size,1,none⟩) (by simp)).trans (newCell w _ _ 1),(h.cell (p:=⟨w.heap.size,2,none⟩) (by simp)).trans (newCell w _ _ 2),(h.cell (p:=⟨w.heap.size,3,none⟩) (by simp)).trans (newCell w _ _ 3),(h.cell (p:=⟨w.heap.size,4,none⟩) (by simp)).trans (newCell w _ _ 4),(h.cell (p:=⟨w.heap.size,5,none⟩) (by simp)).trans (newCell w _ _ 5)⟩
 have hww:∀(x:Int) W,Below (w.heap.size+1) (w.alloc (.cells #[.int .i64 vars,.slice Aa na ca,.int .i64 nodes,.int .i64 start,.int .i64 last,.slice Ae ne ce] 25)) W→Calls Try.prog 40 #[.agg #[.int .i64 vars,.slice Aa na ca,.int .i64 nodes,.int .i64 start,.int .i64 last,.slice Ae ne ce],.int .i64 x] W fun e W'=>e= .returned (.bool (decide (0≤x)&&decide (x < nodes)))∧Below (w.heap.size+1) (w.alloc (.cells #[.int .i64 vars,.slice Aa na ca,.int .i64 nodes,.int .i64 start,.int .i64 last,.slice Ae ne ce] 25)) W':=fun x W h=>
  (rwithin_any x vars Aa na ca nodes start last Ae ne ce W).mono fun _ _ h2=>⟨h2.1,h.trans (h2.2.mono (by have:=h.size;simpa using this))⟩
 have HE:=hdq hbb
 have HK:=hdq hkk
 have HW:=hdq hww
 clear hbb hkk hww
 have hB0:Below (w.heap.size+1) (w.alloc (.cells #[.int .i64 vars,.slice Aa na ca,.int .i64 nodes,.int .i64 start,.int .i64 last,.slice Ae ne ce] 25)) (w.alloc (.cells #[.int .i64 vars,.slice Aa na ca,.int .i64 nodes,.int .i64 start,.int .i64 last,.slice Ae ne ce] 25)):=(Below.refl (w.alloc (.cells #[.int .i64 vars,.slice Aa na ca,.int .i64 nodes,.int .i64 start,.int .i64 last,.slice Ae ne ce] 25)).heap.size _).mono (by simp)
 go_enter Try.func19,Try.ntmps19
 go_wp2_with (go_at_call 40;refine(HW.out _ _ (by assumption)).mono ?_;rintro _ _ ⟨rfl,hb1⟩;obtain⟨k0,k1,k2,k3,k4,k5⟩:=HK.out _ hb1)
 go_loopw [3] (fun i wr=>∃k:Nat,k≤na∧i= .int .i64 k∧Hid (Below (w.heap.size+1) (w.alloc (.cells #[.int .i64 vars,.slice Aa na ca,.int .i64 nodes,.int .i64 start,.int .i64 last,.slice Ae ne ce] 25)) wr)∧Hid (arrays.any sizeBad=(arrays.drop k).any sizeBad)) (fun i _=>na - (intOf i).toNat)
 case atStart=>exact⟨0,Nat.zero_le _,rfl,by assumption,rfl⟩
 case round=>
  obtain⟨k,hk,rfl,hb,hany⟩:=hrel
  obtain⟨g0,g1,g2,g3,g4,g5⟩:=HK.out _ hb.out
  by_cases hlt:k < na
  ·obtain⟨n,hn⟩:∃n,arrays[k]?=some n:=⟨_,List.getElem?_eq_getElem (by rw[←HNA.out];exact hlt)⟩
   obtain⟨b,o,rfl,hat⟩:=HX.out.2.2 (by rw[←HNA.out];omega)
   have c0:=((hat.keep (Same.of (HE.out _ hb.out) hB)).2 k n hn).1
   have hlt':(k:Int) < (na:Int):=by omega
   have hge:(0:Int)≤(k:Int):=by omega
   by_cases n1:n < 1
   ·have HF:=hdq (any_here (p:=sizeBad) hn (by simp[sizeBad,n1]))
    have n1':decide (n < 1)=true:=by simpa using n1
    clear hat hn n1
    go_wp2_with fail
    go_ret
    exact⟨by rw[HF.out];rfl,HE.out _ hb.out⟩
   by_cases n2:16 < n
   ·have HF:=hdq (any_here (p:=sizeBad) hn (by simp[sizeBad,n2]))
    have n1':decide (n < 1)=false:=by simpa using n1
    have n2':decide (16 < n)=true:=by simpa using n2
    clear hat hn n1 n2
    go_wp2_with fail
    go_ret
    exact⟨by rw[HF.out];rfl,HE.out _ hb.out⟩
   have HN:=hdq (any_drop (p:=sizeBad) hn (by simp[sizeBad,n1,n2]<;>omega) hany.out)
   have n1':decide (n < 1)=false:=by simpa using n1
   have n2':decide (16 < n)=false:=by simpa using n2
   clear hat hn n1 n2
   go_wp2_with fail
   go_roundw
   case rel=>exact⟨k+1,by omega,by go_num,hb,HN⟩
   case measure=>simp[intOf];omega
  ·have HAR:=hdq (show arrays.any sizeBad=false from by rw[hany.out,List.drop_eq_nil_of_le (by rw[←HNA.out];omega)];rfl)
   clear hany
   go_wp2_with fail
   clear g0 g1 g2 g3 g4 g5
   go_loopw [4] (fun i wr=>∃k:Nat,k≤ne∧i= .int .i64 k∧Hid (Below (w.heap.size+1) (w.alloc (.cells #[.int .i64 vars,.slice Aa na ca,.int .i64 nodes,.int .i64 start,.int .i64 last,.slice Ae ne ce] 25)) wr)∧Hid (l.any (edBad vars na nodes)=(l.drop k).any (edBad vars na nodes))) (fun i _=>ne - (intOf i).toNat)
   case atStart=>exact⟨0,Nat.zero_le _,rfl,hb,rfl⟩
   case round=>
    obtain⟨k,hk,rfl,hb,hany⟩:=hrel
    obtain⟨g0,g1,g2,g3,g4,g5⟩:=HK.out _ hb.out
    by_cases hlt:k < ne
    ·obtain⟨e,he⟩:∃e,l[k]?=some e:=⟨_,List.getElem?_eq_getElem (by rw[←HNE.out];exact hlt)⟩
     obtain⟨b,o,rfl,hat⟩:=HY.out.2.2 (by rw[←HNE.out];omega)
     have hbw:=HE.out _ hb.out
     have hBr:=leq9 hB hbw.size
     obtain⟨hbB,c0,c1,c2,c3,c4,⟨A1,k1,c5,s1⟩,c6,hok⟩:=(hat.keep (Same.of hbw hB)).at_ he
     have hbr:b < wr.heap.size:=ltq hbB hBr
     have hwr:w.heap.size < wr.heap.size:=by have:=hb.out.size;simp at this;omega
     have hlt':(k:Int) < (ne:Int):=by omega
     have hge:(0:Int)≤(k:Int):=by omega
     have HWf:=hdq (fun(W:World) (h:Below wr.heap.size wr W)=>(rwithin_any e.from_ vars Aa na ca nodes start last (some ⟨b,o,none⟩) ne ce W).mono fun x w' h2=>show x= .returned (.bool (decide (0≤e.from_)&&decide (e.from_ < nodes)))∧Below wr.heap.size wr w' from⟨h2.1,h.trans (h2.2.mono h.size)⟩)
     have HWt:=hdq (fun(W:World) (h:Below wr.heap.size wr W)=>(rwithin_any e.to_ vars Aa na ca nodes start last (some ⟨b,o,none⟩) ne ce W).mono fun x w' h2=>show x= .returned (.bool (decide (0≤e.to_)&&decide (e.to_ < nodes)))∧Below wr.heap.size wr w' from⟨h2.1,h.trans (h2.2.mono h.size)⟩)
     have HD:=hdq (fun(W:World) (h:Below wr.heap.size wr W)=>(rdo_any vars na e.kind e.n e.cmp e.args A1 Aa k1 ca nodes start last (some ⟨b,o,none⟩) ne ce B W (leq9 hBr h.size) (s1.keep (Same.of h hBr)) hla hok.2.2.2.2.1 hok.2.2.1).mono fun x w' h2=>show x= .returned (.bool (mayD vars na e.kind e.n e.cmp e.args))∧Below wr.heap.size wr w' from⟨h2.1,h.trans (h2.2.mono h.size)⟩)
     unfold grV at HWf HWt HD
     unfold doI at HD
     obtain⟨b1,q1⟩:=nmq ((decide (0≤e.from_)&&decide (e.from_ < nodes)))
     obtain⟨b2,q2⟩:=nmq ((decide (0≤e.to_)&&decide (e.to_ < nodes)))
     obtain⟨b3,q3⟩:=nmq (mayD vars na e.kind e.n e.cmp e.args)
     rw[←q1]at HWf
     rw[←q2]at HWt
     rw[←q3]at HD
     have HBD:=hdq (show edBad vars na nodes e=(!b1 || !b2 || !b3)from by rw[edBad,q1,q2,q3])
     have HEE:=hdq he
     have z0:∀z:HeldW (Below wr.heap.size wr),z.w.cell? ⟨w.heap.size,0,none⟩=some (.int .i64 vars):=fun z=>(z.h.cell hwr).trans g0
     have z1:∀z:HeldW (Below wr.heap.size wr),z.w.cell? ⟨w.heap.size,1,none⟩=some (.slice Aa na ca):=fun z=>(z.h.cell hwr).trans g1
     have z2:∀z:HeldW (Below wr.heap.size wr),z.w.cell? ⟨w.heap.size,2,none⟩=some (.int .i64 nodes):=fun z=>(z.h.cell hwr).trans g2
     have z3:∀z:HeldW (Below wr.heap.size wr),z.w.cell? ⟨w.heap.size,3,none⟩=some (.int .i64 start):=fun z=>(z.h.cell hwr).trans g3
     have z4:∀z:HeldW (Below wr.heap.size wr),z.w.cell? ⟨w.heap.size,4,none⟩=some (.int .i64 last):=fun z=>(z.h.cell hwr).trans g4
     have z5:∀z:HeldW (Below wr.heap.size wr),z.w.cell? ⟨w.heap.size,5,none⟩=some (.slice (some ⟨b,o,none⟩) ne ce):=fun z=>(z.h.cell hwr).trans g5
     have y0:∀z:HeldW (Below wr.heap.size wr),z.w.cell? ⟨b,o+k*7,none⟩=some (.int .i64 e.from_):=fun z=>(z.h.cell hbr).trans c0
     have y1:∀z:HeldW (Below wr.heap.size wr),z.w.cell? ⟨b,o+k*7+1,none⟩=some (.int .i64 e.to_):=fun z=>(z.h.cell hbr).trans c1
     have y2:∀z:HeldW (Below wr.heap.size wr),z.w.cell? ⟨b,o+k*7+2,none⟩=some (.int .u8 e.kind):=fun z=>(z.h.cell hbr).trans c2
     have y3:∀z:HeldW (Below wr.heap.size wr),z.w.cell? ⟨b,o+k*7+3,none⟩=some (.int .i64 e.n):=fun z=>(z.h.cell hbr).trans c3
     have y4:∀z:HeldW (Below wr.heap.size wr),z.w.cell? ⟨b,o+k*7+4,none⟩=some (.int .u8 e.cmp):=fun z=>(z.h.cell hbr).trans c4
     have y5:∀z:HeldW (Below wr.heap.size wr),z.w.cell? ⟨b,o+k*7+5,none⟩=some (.slice A1 e.args.len k1):=fun z=>(z.h.cell hbr).trans c5
     have hS:Below wr.heap.size wr wr.drew:=(Below.refl _ _).drew
     have hne:Nonempty (HeldW (Below wr.heap.size wr)):=⟨⟨_,hS⟩⟩
     have HAN:=hdq hany.out
     clear hat he hok s1 q1 q2 q3 hany
     cases b1
     ·have HF:=hdq (any_here (p:=edBad vars na nodes) HEE.out (by rw[HBD.out];rfl))
      go_wp2_with fail
      refine wp_region_held (Below wr.heap.size wr) hS (by kernel_rfl) (by kernel_rfl) ?_
      repeat(go_big_quiet_step (first|(go_at_call_of 40 (Value.int IntKind.i64 e.from_);exact held_call HWf.out)|(go_at_call_of 40 (Value.int IntKind.i64 e.to_);exact held_call HWt.out)|(go_at_call 41;exact held_call HD.out)))
      refine wpQuiet_nil ?_
      intro _ hw'
      obtain⟨z,rfl⟩:=hw'
      go_wp2_with fail
      go_ret
      exact⟨by rw[HF.out];simp,HE.out _ (hb.out.trans (z.h.mono hwr))⟩
     cases b2
     ·have HF:=hdq (any_here (p:=edBad vars na nodes) HEE.out (by rw[HBD.out];rfl))
      go_wp2_with fail
      refine wp_region_held (Below wr.heap.size wr) hS (by kernel_rfl) (by kernel_rfl) ?_
      repeat(go_big_quiet_step (first|(go_at_call_of 40 (Value.int IntKind.i64 e.from_);exact held_call HWf.out)|(go_at_call_of 40 (Value.int IntKind.i64 e.to_);exact held_call HWt.out)|(go_at_call 41;exact held_call HD.out)))
      refine wpQuiet_nil ?_
      intro _ hw'
      obtain⟨z,rfl⟩:=hw'
      go_wp2_with fail
      go_ret
      exact⟨by rw[HF.out];simp,HE.out _ (hb.out.trans (z.h.mono hwr))⟩
     cases b3
     ·have HF:=hdq (any_here (p:=edBad vars na nodes) HEE.out (by rw[HBD.out];rfl))
      go_wp2_with fail
      refine wp_region_held (Below wr.heap.size wr) hS (by kernel_rfl) (by kernel_rfl) ?_
      repeat(go_big_quiet_step (first|(go_at_call_of 40 (Value.int IntKind.i64 e.from_);exact held_call HWf.out)|(go_at_call_of 40 (Value.int IntKind.i64 e.to_);exact held_call HWt.out)|(go_at_call 41;exact held_call HD.out)))
      refine wpQuiet_nil ?_
      intro _ hw'
      obtain⟨z,rfl⟩:=hw'
      go_wp2_with fail
      go_ret
      exact⟨by rw[HF.out];simp,HE.out _ (hb.out.trans (z.h.mono hwr))⟩
     have HN:=hdq (any_drop (p:=edBad vars na nodes) HEE.out (by rw[HBD.out];rfl) HAN.out)
     go_wp2_with fail
     refine wp_region_held (Below wr.heap.size wr) hS (by kernel_rfl) (by kernel_rfl) ?_
     repeat(go_big_quiet_step (first|(go_at_call_of 40 (Value.int IntKind.i64 e.from_);exact held_call HWf.out)|(go_at_call_of 40 (Value.int IntKind.i64 e.to_);exact held_call HWt.out)|(go_at_call 41;exact held_call HD.out)))
     refine wpQuiet_nil ?_
     intro _ hw'
     obtain⟨z,rfl⟩:=hw'
     go_wp2_with fail
     go_roundw
     case rel=>exact⟨k+1,by omega,by go_num,hb.out.trans (z.h.mono hwr),HN⟩
     case measure=>simp[intOf];omega
    ·have HAE:=hdq (show l.any (edBad vars na nodes)=false from by rw[hany.out,List.drop_eq_nil_of_le (by rw[←HNE.out];omega)];rfl)
     clear hany
     go_wp2_with fail
     clear g0 g1 g2 g3 g4 g5
     go_loopw [5] (fun i wr=>∃k:Nat,k≤ne∧i= .int .i64 k∧Hid (Below (w.heap.size+1) (w.alloc (.cells #[.int .i64 vars,.slice Aa na ca,.int .i64 nodes,.int .i64 start,.int .i64 last,.slice Ae ne ce] 25)) wr)∧Hid ((l.all fun e=>rnodeOk l last e.from_)=(l.drop k).all fun e=>rnodeOk l last e.from_)) (fun i _=>ne - (intOf i).toNat)
     case atStart=>exact⟨0,Nat.zero_le _,rfl,hb,rfl⟩
     case round=>
      obtain⟨k,hk,rfl,hb,hall⟩:=hrel
      obtain⟨g0,g1,g2,g3,g4,g5⟩:=HK.out _ hb.out
      by_cases hlt:k < ne
      ·obtain⟨e,he⟩:∃e,l[k]?=some e:=⟨_,List.getElem?_eq_getElem (by rw[←HNE.out];exact hlt)⟩
       have HO:=hdq (fun(W:World) (h:Below (w.heap.size+1) (w.alloc (.cells #[.int .i64 vars,.slice Aa na ca,.int .i64 nodes,.int .i64 start,.int .i64 last,.slice Ae ne ce] 25)) W)=>(rout_any l e.from_ vars Aa na ca nodes start last Ae ce B W (leq9 hB (HE.out _ h).size) (HY.out.keep (Same.of (HE.out _ h) hB)) (by rw[←HNE.out];exact h2048)).mono fun x w' h2=>show ∃A c,x= .returned (.slice A (idxE l e.from_ l.length).length c)∧IsSl w' w'.heap.size ((idxE l e.from_ l.length).map fun(i:Nat)=>(i:Int)) A c∧Below (w.heap.size+1) (w.alloc (.cells #[.int .i64 vars,.slice Aa na ca,.int .i64 nodes,.int .i64 start,.int .i64 last,.slice Ae ne ce] 25)) w' from by
        obtain⟨A,c,h3,h4,h5⟩:=h2
        exact⟨A,c,h3,h4,h.trans (h5.mono (by have:=h.size;simpa using this))⟩)
       have HM:=hdq (fun(A:Option Addr) (c:Nat) (W:World) (h:Below (w.heap.size+1) (w.alloc (.cells #[.int .i64 vars,.slice Aa na ca,.int .i64 nodes,.int .i64 start,.int .i64 last,.slice Ae ne ce] 25)) W) (hs:IsSl W W.heap.size ((idxE l e.from_ l.length).map fun(i:Nat)=>(i:Int)) A c)=>
        (rmayOut_any l e.from_ vars Aa na ca nodes start last Ae ce A c B W (leq9 hB (HE.out _ h).size) (HY.out.keep (Same.of (HE.out _ h) hB)) hs (cmp_ok HAE.out)).mono fun x w' h2=>show x= .returned (.bool (rightL (outE l e.from_)))∧Below (w.heap.size+1) (w.alloc (.cells #[.int .i64 vars,.slice Aa na ca,.int .i64 nodes,.int .i64 start,.int .i64 last,.slice Ae ne ce] 25)) w' from⟨h2.1,h.trans (h2.2.mono (by have:=h.size;simpa using this))⟩)
       have hx64:in64 e.from_:=by
        obtain⟨b,o,_,hat⟩:=HY.out.2.2 (by rw[←HNE.out];omega)
        obtain⟨_,_,_,_,_,_,_,_,hok⟩:=hat.at_ he
        exact hok.1
       have HR:=hdq (fun(W:World) (h:Below (w.heap.size+1) (w.alloc (.cells #[.int .i64 vars,.slice Aa na ca,.int .i64 nodes,.int .i64 start,.int .i64 last,.slice Ae ne ce] 25)) W)=>(rround_any l e.from_ hx64 vars Aa na ca nodes start last Ae ce B W (leq9 hB (HE.out _ h).size) (HY.out.keep (Same.of (HE.out _ h) hB)) (by rw[←HNE.out];exact h2048)).mono fun x w' h2=>show x= .returned (.bool (walkR l e.from_ e.from_ (l.length+1)))∧Below (w.heap.size+1) (w.alloc (.cells #[.int .i64 vars,.slice Aa na ca,.int .i64 nodes,.int .i64 start,.int .i64 last,.slice Ae ne ce] 25)) w' from⟨h2.1,h.trans (h2.2.mono (by have:=h.size;simpa using this))⟩)
       unfold grV at HO HM HR
       obtain⟨b,o,rfl,hat⟩:=HY.out.2.2 (by rw[←HNE.out];omega)
       have hbw:=HE.out _ hb.out
       have hBr:=leq9 hB hbw.size
       obtain⟨hbB,c0,_⟩:=(hat.keep (Same.of hbw hB)).at_ he
       have hlt':(k:Int) < (ne:Int):=by omega
       have hge:(0:Int)≤(k:Int):=by omega
       obtain⟨b1,q1⟩:=nmq (rightL (outE l e.from_))
       obtain⟨b2,q2⟩:=nmq (walkR l e.from_ e.from_ (l.length+1))
       rw[←q1]at HM
       rw[←q2]at HR
       have HP:=hdq (show rnodeOk l last e.from_=(!(e.from_==last)&&b1&& !b2)from by rw[rnodeOk,q1,q2])
       rw[←HNE.out]at HO HM HR
       have HEE:=hdq he
       clear hat he q1 q2 hx64
       cases hq:e.from_==last
       ·cases b1
        ·have HF:=hdq (allE_no (p:=fun e=>rnodeOk l last e.from_) HEE.out (by show rnodeOk l last e.from_=false;rw[HP.out];simp))
         go_wp2_with fail
         have hbd:=hb.out.drew
         first
          |(go_region_with (first|(go_at_call 43;refine(HO.out _ (by assumption)).mono ?_;rintro _ _ ⟨A',c',rfl,hs1,hb1⟩;obtain⟨k0,k1,k2,k3,k4,k5⟩:=HK.out _ hb1)|(go_at_call 42;refine(HM.out _ _ _ (by assumption) (by assumption)).mono ?_;rintro _ _ ⟨rfl,hb2⟩;obtain⟨j0,j1,j2,j3,j4,j5⟩:=HK.out _ hb2)|(go_at_call 44;refine(HR.out _ (by assumption)).mono ?_;rintro _ _ ⟨rfl,hb3⟩)))
          |fail "with"
         all_goals
          go_wp2_with fail
          go_ret
          exact⟨by rw[HF.out];simp,HE.out _ (by assumption)⟩
        ·cases b2
         ·have HN:=hdq (allE_drop (p:=fun e=>rnodeOk l last e.from_) HEE.out (by show rnodeOk l last e.from_=true;rw[HP.out,hq];rfl) hall.out)
          go_wp2_with fail
          have hbd:=hb.out.drew
          first
           |(go_region_with (first|(go_at_call 43;refine(HO.out _ (by assumption)).mono ?_;rintro _ _ ⟨A',c',rfl,hs1,hb1⟩;obtain⟨k0,k1,k2,k3,k4,k5⟩:=HK.out _ hb1)|(go_at_call 42;refine(HM.out _ _ _ (by assumption) (by assumption)).mono ?_;rintro _ _ ⟨rfl,hb2⟩;obtain⟨j0,j1,j2,j3,j4,j5⟩:=HK.out _ hb2)|(go_at_call 44;refine(HR.out _ (by assumption)).mono ?_;rintro _ _ ⟨rfl,hb3⟩)))
           |fail "with"
          all_goals
           go_wp2_with fail
           go_roundw
           case rel=>exact⟨k+1,by omega,by go_num,by assumption,HN⟩
           case measure=>simp[intOf];omega
         ·have HF:=hdq (allE_no (p:=fun e=>rnodeOk l last e.from_) HEE.out (by show rnodeOk l last e.from_=false;rw[HP.out];simp))
          go_wp2_with fail
          have hbd:=hb.out.drew
          first
           |(go_region_with (first|(go_at_call 43;refine(HO.out _ (by assumption)).mono ?_;rintro _ _ ⟨A',c',rfl,hs1,hb1⟩;obtain⟨k0,k1,k2,k3,k4,k5⟩:=HK.out _ hb1)|(go_at_call 42;refine(HM.out _ _ _ (by assumption) (by assumption)).mono ?_;rintro _ _ ⟨rfl,hb2⟩;obtain⟨j0,j1,j2,j3,j4,j5⟩:=HK.out _ hb2)|(go_at_call 44;refine(HR.out _ (by assumption)).mono ?_;rintro _ _ ⟨rfl,hb3⟩)))
           |fail "with"
          all_goals
           go_wp2_with fail
           go_ret
           exact⟨by rw[HF.out];simp,HE.out _ (by assumption)⟩
       ·have HF:=hdq (allE_no (p:=fun e=>rnodeOk l last e.from_) HEE.out (by show rnodeOk l last e.from_=false;rw[HP.out,hq];simp))
        go_wp2_with fail
        go_quiet (fail)
        go_wp2_with fail
        go_ret
        exact⟨by rw[HF.out];simp,below_drewN' hbw _⟩
      ·have HF:=hdq (show(l.all fun e=>rnodeOk l last e.from_)=true from by rw[hall.out,List.drop_eq_nil_of_le (by rw[←HNE.out];omega)];rfl)
       clear hall
       go_wp2_with fail
       go_ret
       exact⟨by rw[HAR.out,HAE.out,HF.out];rfl,HE.out _ hb.out⟩
end Go.Proofs.Ytphlnpaikpjakaa
