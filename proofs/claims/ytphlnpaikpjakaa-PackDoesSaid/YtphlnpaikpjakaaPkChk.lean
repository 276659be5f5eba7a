/-
  pack.Check: which packs may be.
-/
import Derived.Test.YtphlnpaikpjakaaPkLaws
import Derived.Test.YtphlnpaikpjakaaPkWalk
set_option linter.unusedVariables false
set_option linter.unusedSimpArgs false
namespace Go.Proofs.Ytphlnpaikpjakaa
open Go.RowKit Go.Shelf

theorem rise_next {l:List Int} {k:Nat} {x y:Int} (hy:l[k]?=some y) (hx:l[k+1]?=some x) (hp:(l.take (k+1)).Pairwise (· < ·)) (h:y < x):(l.take (k+1+1)).Pairwise (· < ·):=by
 have e1:l.take (k+1+1)=l.take (k+1)++ [x]:=by rw[List.take_add_one,hx];rfl
 have e2:l.take (k+1)=l.take k++ [y]:=by rw[List.take_add_one,hy];rfl
 rw[e1]
 refine List.pairwise_append.2 ⟨hp,by simp,fun a ha b hb=>?_⟩
 obtain rfl:=List.mem_singleton.1 hb
 rw[e2]at ha hp
 rcases List.mem_append.1 ha with ha|ha
 ·have:=(List.pairwise_append.1 hp).2.2 a ha y (List.mem_singleton.2 rfl)
  omega
 ·obtain rfl:=List.mem_singleton.1 ha
  exact h
theorem rise_not {l:List Int} {k:Nat} {x y:Int} (hy:l[k]?=some y) (hx:l[k+1]?=some x) (h:x≤y):risB l=false:=by
 unfold risB
 rw[decide_eq_false_iff_not]
 intro hp
 obtain⟨h1,e1⟩:=List.getElem?_eq_some_iff.1 hy
 obtain⟨h2,e2⟩:=List.getElem?_eq_some_iff.1 hx
 have:=List.pairwise_iff_getElem.1 hp k (k+1) h1 h2 (by omega)
 omega
set_option maxRecDepth 100000 in
set_option maxHeartbeats 1600000 in
theorem rises_any (l:List Int) (A:Option Addr) (c B:Nat) (w:World) (hB:B≤w.heap.size) (hs:IsSl w B l A c):Calls Try.prog 26 #[.slice A l.length c] w (BoolPost (risB l) w):=by
 have HS:=hdq hs
 have hl:l.length≤9223372036854775807:=leq9 hs.1 hs.2.1
 obtain⟨m,hm⟩:=nmq l.length
 rw[←hm]at hl ⊢
 have HM:=hdq hm
 obtain⟨bb,hbb⟩:=nmq (risB l)
 have HBB:=hdq hbb
 rw[←hbb]
 clear hs hm hbb
 go_enter Try.func26,Try.ntmps26
 go_wp2_with fail
 go_loopw [3] (fun i wr=>∃k:Nat,(k+1≤m∨k=0)∧i= .int .i64 ((k:Int)+1)∧Below w.heap.size w wr∧Hid ((l.take (k+1)).Pairwise (· < ·))) (fun i _=>m+1 - (intOf i).toNat)
 case atStart=>exact⟨0,.inr rfl,rfl,Below.refl _ _,hdq (by cases l<;>simp)⟩
 case round=>
  obtain⟨k,hk,rfl,hb,hp⟩:=hrel
  by_cases hlt:k+1 < m
  ·obtain⟨x,hx⟩:∃x,l[k+1]?=some x:=⟨_,List.getElem?_eq_getElem (by rw[←HM.out];exact hlt)⟩
   obtain⟨y,hy⟩:∃y,l[k]?=some y:=⟨_,List.getElem?_eq_getElem (by rw[←HM.out];omega)⟩
   obtain⟨b,o,rfl,hat⟩:=HS.out.2.2 (by rw[←HM.out];omega)
   have hat':=hat.keep (Same.of hb hB)
   have c1:=(hat'.2 (k+1) x hx).1
   have c2:=(hat'.2 k y hy).1
   have bl:b < wr.heap.size:=ltq hat.1 (leq9 hB hb.size)
   have hkk:wrap64 ((k:Int)+1 - 1)=(k:Int):=by unfold wrap64;omega
   have hk2:wrap64 ((k:Int)+1+1)=((k+1:Nat):Int)+1:=by unfold wrap64;omega
   have hlt2:(k:Int)+1 < (m:Int):=by omega
   have ht:((k:Int)+1).toNat =k+1:=by omega
   have HB:=hdq hb
   by_cases hxy:x≤y
   ·have HF:=hdq (rise_not hy hx hxy)
    clear hx hy hat hat' hp hb
    go_wp2_with fail
    go_quiet (fail)
    go_wp2_with fail
    go_ret
    exact⟨by rw[HBB.out,HF.out];rfl,⟨HB.out.os,HB.out.tape,HB.out.output,HB.out.size,HB.out.block⟩⟩
   ·have HN:=hdq (rise_next hy hx hp.out (by omega))
    clear hx hy hat hat' hp hb
    go_wp2_with fail
    go_quiet (fail)
    go_wp2_with fail
    go_roundw
    case rel=>exact⟨k+1,.inl (by omega),by go_num,⟨HB.out.os,HB.out.tape,HB.out.output,HB.out.size,HB.out.block⟩,HN⟩
    case measure=>simp[intOf];omega
  ·have HF:=hdq (show risB l=true by
    unfold risB
    rw[decide_eq_true_eq]
    have h:=hp.out
    rw[List.take_of_length_le (by rw[←HM.out];omega)]at h
    exact h)
   have hn:¬((k:Int)+1 < (m:Int)):=by omega
   clear hp
   go_wp2_with fail
   go_ret
   exact⟨by rw[HBB.out,HF.out];rfl,hb⟩

def hdsZ (ls:List (List Int)):List Int:=ls.map (·.headD 0)
structure ChkI (w wr:World) (ls:List (List Int)) (most:Int) (k:Nat) (y1 y2:Value):Prop where
 below:Below w.heap.size w wr
 good:∀l∈ls.take k,badRow most l=false
 r1:wr.ownsRow w.heap.size 3 1 y1 k (intZ (hdsZ (ls.take k)))
 r2:wr.ownsRow w.heap.size 3 1 y2 (ls.take k).flatten.length (intZ (ls.take k).flatten)
 ap:∀b,y1.ownBlock=some b→y2.ownBlock≠some b
theorem own_lt {w:World} {L n:Nat} {y:Value} {xs:List Value} (h:w.ownsRow L 3 1 y n xs) {b:Nat} (hb:y.ownBlock=some b):L≤b∧b < w.heap.size:=by
 rcases h.2 with⟨rfl,_⟩|⟨g,cap,cur,rfl,h1,h2,_⟩
 ·simp[Value.ownBlock]at hb
 ·obtain rfl:g=b:=by simpa[Value.ownBlock]using hb
  exact⟨h1,(Array.getElem?_eq_some_iff.1 h2).1⟩
theorem ChkI.start (w:World) (ls:List (List Int)) (most:Int):ChkI w w ls most 0 (.slice none 0 0) (.slice none 0 0):=
 ⟨Below.refl _ _,fun l h=>by simp at h,World.ownsRow_nil _ _ _ _,World.ownsRow_nil _ _ _ _,fun b h=>by simp[Value.ownBlock]at h⟩
theorem ap_ne {y1 y2:Value} (h:∀b,y1.ownBlock=some b→y2.ownBlock≠some b):y2.ownBlock=none∨y2.ownBlock≠y1.ownBlock:=by
 cases h2:y2.ownBlock with
 |none=>exact .inl rfl
 |some b=>exact .inr fun e=>h b e.symm h2
theorem ap_ne' {y1 y2:Value} (h:∀b,y1.ownBlock=some b→y2.ownBlock≠some b):y1.ownBlock=none∨y1.ownBlock≠y2.ownBlock:=by
 cases h1:y1.ownBlock with
 |none=>exact .inl rfl
 |some b=>exact .inr fun e=>h b h1 e.symm
theorem ChkI.row2 {w wr w2:World} {ls:List (List Int)} {most:Int} {k:Nat} {y1 y2:Value} {o:Obj} (h:ChkI w wr ls most k y1 y2) (hg1:(wr.alloc o).grownBy w2 y1.ownBlock):
  w2.ownsRow w.heap.size 3 1 y2 (ls.take k).flatten.length (intZ (ls.take k).flatten):=(h.r2.alloc _).kept hg1 (ap_ne h.ap)
theorem ChkI.mid {w wr w2:World} {ls:List (List Int)} {most:Int} {k:Nat} {y1 y2:Value} {o:Obj} (h:ChkI w wr ls most k y1 y2) (hg1:(wr.alloc o).grownBy w2 y1.ownBlock):Below w.heap.size w w2:=
 (h.below.alloc h.below.size o).grown hg1 (leq9 h.below.size (by simp)) fun g hg=>(own_lt h.r1 hg).1
theorem ChkI.next {w wr w2 w3:World} {ls:List (List Int)} {most:Int} {k:Nat} {y1 y2 y1' y2':Value} {o:Obj} (h:ChkI w wr ls most k y1 y2) {l:List Int} (hl:ls[k]?=some l) (hb:badRow most l=false) {x:Int} (hx:l[0]?=some x)
  (hg1:(wr.alloc o).grownBy w2 y1.ownBlock) (ho1:w2.ownsRow w.heap.size 3 1 y1' (k+1) (intZ (hdsZ (ls.take k))++ [.int .i64 x])) (hn1:y1'.ownBlock=y1.ownBlock∨y1'.ownBlock=some (wr.alloc o).heap.size)
  (hg2:w2.grownBy w3 y2.ownBlock) (ho2:w3.ownsRow w.heap.size 3 1 y2' ((ls.take k).flatten.length +l.length) (intZ (ls.take k).flatten ++intZ l)) (hn2:y2'.ownBlock=y2.ownBlock∨y2'.ownBlock=some w2.heap.size):
  ChkI w w3 ls most (k+1) y1' y2':=by
 have ht:ls.take (k+1)=ls.take k++ [l]:=by rw[List.take_add_one,hl];rfl
 have hh:l.headD 0=x:=by cases l with|nil=>simp at hx|cons a l=>simpa using hx
 have hap1:∀b,y1'.ownBlock=some b→y2.ownBlock≠some b:=fun b e1 e2=>by
  rcases hn1 with e|e
  ·exact h.ap b (e▸e1) e2
  ·rw[e]at e1
   have:=(own_lt (h.r2.alloc o) e2).2
   injection e1 with e1
   omega
 refine⟨(h.mid hg1).grown hg2 (h.mid hg1).size fun g hg=>(own_lt h.r2 hg).1,fun l' hl'=>?_,?_,?_,fun b e1 e2=>?_⟩
 ·rw[ht]at hl'
  rcases List.mem_append.1 hl' with hl'|hl'
  ·exact h.good l' hl'
  ·rw[List.mem_singleton.1 hl'];exact hb
 ·have e:intZ (hdsZ (ls.take (k+1)))=intZ (hdsZ (ls.take k))++ [.int .i64 x]:=by rw[ht];unfold hdsZ;rw[List.map_append,List.map_singleton,hh];simp only[intZ,List.map_append,List.map_cons,List.map_nil]
  rw[e]
  exact ho1.kept hg2 (ap_ne' hap1)
 ·have e:intZ (ls.take (k+1)).flatten =intZ (ls.take k).flatten ++intZ l:=by rw[ht];simp[intZ]
  have e2:(ls.take (k+1)).flatten.length =(ls.take k).flatten.length +l.length:=by rw[ht];simp
  rw[e,e2]
  exact ho2
 ·rcases hn2 with e|e
  ·exact hap1 b e1 (e▸e2)
  ·rw[e]at e2
   injection e2 with e2
   have:=(own_lt ho1 e1).2
   omega
theorem flat_len {most:Int} (h6:most≤6):∀ {ls:List (List Int)},(∀l∈ls,badRow most l=false)→ls.flatten.length≤6*ls.length
 | [],_=>by simp
 |l::ls,h=>by
  have h1:=flat_len h6 (ls:=ls) fun l' hl'=>h l' (List.mem_cons_of_mem _ hl')
  have h2:=h l (List.mem_cons_self ..)
  unfold badRow at h2
  simp only[Bool.or_eq_false_iff,decide_eq_false_iff_not]at h2
  rw[List.flatten_cons,List.length_append,List.length_cons]
  omega
theorem isSl_row {w:World} {L n B:Nat} {y:Value} {l:List Int} (h:w.ownsRow L 3 1 y n (intZ l)) (hB:w.heap.size≤B) (h64:∀x∈l,in64 x):n=l.length∧∃A c,y= .slice A l.length c∧IsSl w B l A c:=by
 have hn:=h.1
 simp only[intZ,List.length_map,Nat.mul_one]at hn
 refine⟨hn.symm,?_⟩
 subst hn
 rcases h.2 with⟨rfl,h0⟩|⟨g,cap,cur,rfl,h1,h2,h3,h4,_⟩
 ·exact⟨none,0,by rw[h0],by omega,by omega,fun hp=>by omega⟩
 ·refine⟨some ⟨g,0,none⟩,cap,rfl,h3,by unfold maxLen at h4;omega,fun hp=>⟨g,0,rfl,ltq (Array.getElem?_eq_some_iff.1 h2).1 hB,fun i x hi=>⟨?_,h64 x (List.mem_of_getElem? hi)⟩⟩⟩
  rw[Nat.zero_add]
  exact rowZ_cell h i x hi
end Go.Proofs.Ytphlnpaikpjakaa
