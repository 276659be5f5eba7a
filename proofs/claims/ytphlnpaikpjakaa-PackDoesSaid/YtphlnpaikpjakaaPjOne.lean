/-
  facetroomref26.Scalars, one.
-/
import Derived.Test.YtphlnpaikpjakaaPjRead
import Derived.Test.YtphlnpaikpjakaaPkChk2
import Derived.Laws.AppendOwnNone
set_option linter.unusedVariables false
set_option linter.unusedSimpArgs false
namespace Go.Proofs.Ytphlnpaikpjakaa
open Go.RowKit Go.Shelf

def RowN (w:World) (L:Nat) (l:List Int) (y:Value):Prop:=w.ownsRow L 3 1 y l.length (intZ l)
theorem RowN.keep {w w':World} {L:Nat} {l:List Int} {y:Value} (h:RowN w L l y) (hb:Below w.heap.size w w'):RowN w' L l y:=own_keep h hb
theorem RowN.low {w:World} {L L':Nat} {l:List Int} {y:Value} (h:RowN w L l y) (hL:L'≤L):RowN w L' l y:=by
 refine⟨h.1,?_⟩
 rcases h.2 with h1|⟨g,cap,cur,e,h1,h2⟩
 ·exact .inl h1
 ·exact .inr ⟨g,cap,cur,e,leq9 hL h1,h2⟩
set_option maxRecDepth 100000 in
set_option maxHeartbeats 1600000 in
theorem scalR_any (e:Ed) (A:Option Addr) (c B:Nat) (w:World) (hB:B≤w.heap.size) (hx:ExSl w B e.args A c) (hlen:(scalE e).length ≤100000):
  Calls Try.prog 46 #[edV e A c] w fun en w'=>∃y,en= .returned y∧RowN w' w.heap.size (scalE e) y∧Below w.heap.size w w':=by
 have hrd:(readX e.args).length ≤100000:=by unfold scalE at hlen;simp at hlen;omega
 obtain⟨w1,hw1⟩:=nmq (w.alloc (.cells #[.int .i64 e.from_,.int .i64 e.to_,.int .u8 e.kind,.int .i64 e.n,.int .u8 e.cmp,.slice A e.args.len c,.int .i64 e.at_] 46))
 have hb1:Below w.heap.size w w1:=by rw[hw1];exact(Below.refl _ _).alloc (lrq _) _
 have hk1:Bk w1 w.heap.size 46 #[.int .i64 e.from_,.int .i64 e.to_,.int .u8 e.kind,.int .i64 e.n,.int .u8 e.cmp,.slice A e.args.len c,.int .i64 e.at_]:=by rw[hw1];exact Bk.new _ _ _
 have HC:=hdq (readR_any e.args (.slice none 0 0) [] (w.heap.size+1) A c B w1 (by omega) (by rw[hw1];simp) (World.ownsRow_nil _ _ _ _) (hx.keep (Same.of hb1 hB)) (by simp;omega))
 obtain⟨lx,hlx⟩:=nmq e.args.len
 have HSC:=hdq (show scalE e=readX e.args++(if e.kind=3∨e.kind=5 then [e.n]else [])from rfl)
 obtain⟨rd,hrdd⟩:=nmq (readX e.args)
 rw[←hrdd]at hrd HC HSC
 obtain⟨sc,hsc⟩:=nmq (scalE e)
 rw[←hsc]at HSC ⊢
 unfold edV
 rw[←hlx]at HC hk1 hw1 ⊢
 obtain⟨ef,et,ek,en,ec,ea,eat⟩:=e
 simp only at HSC hk1 hw1 ⊢
 obtain⟨i0,hi,hz0,hz1,hz2⟩:=info_parts infoInt7
 have HI:=hdq (aiq hi (aiq hz0 (aiq hz1 hz2)))
 have HW1:=hdq hw1
 have HB1:=hdq hb1
 have HK1:=hdq hk1
 clear hx hlen hlx hrdd hsc hi hz0 hz1 hz2 hw1 hb1 hk1
 go_enter Try.func46,Try.ntmps46
 go_wp2_with fail
 rw[←HW1.out]
 refine HC.out.mono ?_
 rintro _ w2 ⟨y2,rfl,ho2,hg2⟩
 rw[List.nil_append]at ho2
 have hf2:Fr NoT w1 w2:=Fr.grown hg2.g fun g e _=>by simp[Value.ownBlock]at e
 have hk2:=HK1.out.fr0 hf2
 have d2:=hk2.cell 2
 have d3:=hk2.cell 3
 have dl:=hk2.lt
 simp only[List.getElem?_toArray,List.getElem?_cons_succ,List.getElem?_cons_zero]at d2 d3
 have HB2:=hdq (HB1.out.trans (hf2.plain.mono HB1.out.size))
 have HO2:=hdq ho2
 clear hf2 hk2 ho2 hg2
 by_cases h3:ek=3∨ek=5
 ·have HS2:=hdq (show sc=rd++ [en] by rw[HSC.out,if_pos h3])
  rcases h3 with rfl|rfl
  all_goals
   go_wp2_with (at_builtin;refine wpList_append_own _ rfl _ _ 22 rfl w.heap.size 3 i0 (.int .i64 0) 1 8 Try.underlying22 HI.out.1 HI.out.2.1 HI.out.2.2.1 HI.out.2.2.2 rfl (by decide) _ _ _ rfl ((RowN.low HO2.out (Nat.le_succ _)).alloc _) ⟨w2.heap.size,0,none⟩ 1 1 [.int .i64 en] rfl rfl ?c1 ?c2 ?c3 ?c4 ?c5 ?_)
   case c1=>exact cell_one_new _ _ _
   case c2=>
    intro u hu
    rw[List.mem_singleton.1 hu]
    rfl
   case c3=>unfold maxLen;omega
   case c4=>omega
   case c5=>have:=HB2.out.size;simp;omega
   intro y3 w3 ho3 hg3 _
   have HO3:=hdq (show RowN w3 w.heap.size sc y3 by
    unfold RowN
    rw[HS2.out,List.length_append]
    have e:intZ (rd++ [en])=intZ rd++ [.int .i64 en]:=by simp[intZ]
    rw[e]
    exact ho3)
   have HB3:=hdq (show Below w.heap.size w w3 from(HB2.out.alloc HB2.out.size (.cells #[.int .i64 en] 3)).grown hg3 (by have:=HB2.out.size;simp;omega) fun g hg=>(own_lt (RowN.low HO2.out (Nat.le_succ _)) hg).1)
   clear ho3 hg3
   go_wp2_with fail
   go_ret
   exact⟨_,rfl,HO3.out,HB3.out⟩
 ·have HS2:=hdq (show sc=rd by rw[HSC.out,if_neg h3,List.append_nil])
  have h31:(ek==3)=false:=by simp only[not_or]at h3;simpa using h3.1
  have h32:(ek==5)=false:=by simp only[not_or]at h3;simpa using h3.2
  clear h3
  go_wp2_with fail
  go_ret
  exact⟨_,rfl,by rw[HS2.out];exact RowN.low HO2.out (Nat.le_succ _),HB2.out⟩
end Go.Proofs.Ytphlnpaikpjakaa
