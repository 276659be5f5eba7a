/-
  facetroomref13.Out: the numbers of the edges out of a node.
-/
import Derived.Test.YtphlnpaikpjakaaJnCk3
import Derived.Laws.OwnMore
namespace Go.Proofs.Ytphlnpaikpjakaa
open Go.RowKit Go.Shelf

theorem infoInt:(Try.prog.info? 3).map (fun i=>(i.zero,i.size,i.bytes))=some (some (.int .i64 0),1,8):=by kernel_rfl
def fromAt (l:List Ed) (x:Int) (i:Nat):Bool:=match l[i]? with|some e=>e.from_==x|none=>false
def idxE (l:List Ed) (x:Int) (k:Nat):List Nat:=(List.range k).filter (fromAt l x)
def intsV (l:List Nat):List Value:=l.map fun(i:Nat)=>Value.int .i64 (i:Int)
theorem idxE_succ (l:List Ed) (x:Int) (k:Nat):idxE l x (k+1)=if fromAt l x k then idxE l x k++ [k]else idxE l x k:=by
 unfold idxE
 rw[List.range_succ,List.filter_append]
 by_cases h:fromAt l x k<;>simp[h]
theorem idxE_le (l:List Ed) (x:Int) (k:Nat):(idxE l x k).length ≤k:=by
 have:=List.length_filter_le (fromAt l x) (List.range k)
 simpa[idxE]using this
theorem idxE_picks (l:List Ed) (x:Int):∀k:Nat,k≤l.length→(idxE l x k).map (fun i=>l[i]?)=(outE (l.take k) x).map some
 |0,_=>by simp[idxE,outE]
 |k+1,h=>by
  have ih:=idxE_picks l x k (by omega)
  have hk:k < l.length:=by omega
  have e1:l.take (k+1)=l.take k++ [l[k]]:=List.take_succ_eq_append_getElem hk
  rw[idxE_succ,e1]
  have e2:fromAt l x k=(l[k].from_ ==x):=by simp[fromAt,List.getElem?_eq_getElem hk]
  simp only[outE]at ih ⊢
  rw[List.filter_append,e2]
  cases hq:l[k].from_ ==x
  ·simp[hq,ih]
  ·simp[hq,ih,List.getElem?_eq_getElem hk]
theorem picks_all (l:List Ed) (x:Int):(idxE l x l.length).map (fun i=>l[i]?)=(outE l x).map some:=by
 have:=idxE_picks l x l.length (lrq _)
 rwa [List.take_length]at this
theorem idxE_lt (l:List Ed) (x:Int) (k:Nat):∀i∈idxE l x k,i < k:=fun i hi=>by
 simp[idxE]at hi;exact hi.1

def OutP (l:List Ed) (x:Int) (W:World) (e:Ending) (w':World):Prop:=
 ∃A c,e= .returned (.slice A (idxE l x l.length).length c)∧IsSl w' w'.heap.size ((idxE l x l.length).map fun(i:Nat)=>(i:Int)) A c∧Below W.heap.size W w'

theorem isSl_of_owns {w:World} {base:Nat} {e:TypeId} {v:Value} {is:List Nat} (h:w.ownsRow base e 1 v is.length (intsV is)) (hlt:∀i∈is,i≤9223372036854775807):
  ∃A c,v= .slice A is.length c∧IsSl w w.heap.size (is.map fun(i:Nat)=>(i:Int)) A c:=by
 have hown:=h
 obtain⟨hl,h|⟨g,cap,cur,rfl,hb,hg,hn,hc,hs,ht⟩⟩:=h
 ·obtain⟨rfl,h0⟩:=h
  have e0:is= []:=List.length_eq_zero_iff.1 h0
  subst e0
  exact⟨none,0,rfl,by simp,by decide,by simp⟩
 ·have hgl:g < w.heap.size:=by
   rcases Nat.lt_or_ge g w.heap.size with h|h
   ·exact h
   ·rw[Array.getElem?_eq_none h]at hg;exact absurd hg (by simp)
  refine⟨some ⟨g,0,none⟩,cap,rfl,by simpa using hn,by simpa[maxLen]using hc,fun _=>⟨g,0,rfl,hgl,fun i n hi=>?_⟩⟩
  rw[List.getElem?_map]at hi
  cases hx:is[i]? with
  |none=>rw[hx]at hi;simp at hi
  |some j=>
   rw[hx]at hi
   simp at hi
   subst hi
   obtain⟨hil,hxe⟩:=List.getElem?_eq_some_iff.1 hx
   have hc:=hown.cellAt i (by simpa using hil)
   refine⟨?_,?_⟩
   ·rw[Nat.zero_add,hc,intsV,List.getElem?_map,hx];rfl
   ·have:=hlt j (List.mem_of_getElem? hx)
    unfold in64;omega

set_option maxRecDepth 100000 in
set_option maxHeartbeats 1600000 in
theorem rout_any (l:List Ed) (x:Int) (vars:Int) (Aa:Option Addr) (na ca:Nat) (nodes start last:Int) (Ae:Option Addr) (ce B:Nat) (w:World) (hB:B≤w.heap.size)
  (hx:EdSl w B l Ae ce) (hlen:l.length≤2048):
  Calls Try.prog 43 #[grV vars Aa na ca nodes start last Ae l.length ce,.int .i64 x] w (OutP l x w):=by
 obtain⟨i0,hi0,hz0,hz1,hz2⟩:=info_parts infoInt
 have HX:=hdq hx
 obtain⟨n,hn⟩:=nmq l.length
 have HN:=hdq hn
 rw[←hn]at hlen ⊢
 clear hx hn
 unfold grV
 go_enter Try.func43,Try.ntmps43
 go_wp2
 go_loopw [5,6] (fun v i wr=>∃k:Nat,k≤n∧i= .int .i64 k∧Hid (wr.ownsRow (w.heap.size+1) 3 1 v (idxE l x k).length (intsV (idxE l x k)))∧Hid (Below (w.heap.size+1) (w.alloc (.cells #[.int .i64 vars,.slice Aa na ca,.int .i64 nodes,.int .i64 start,.int .i64 last,.slice Ae n ce] 25)) wr)) (fun _ i _=>n - (intOf i).toNat)
 case atStart=>
  refine⟨0,Nat.zero_le _,rfl,by show World.ownsRow _ _ _ _ _ (idxE l x 0).length (intsV (idxE l x 0));exact World.ownsRow_nil _ _ _ _,?_⟩
  exact(Below.refl (w.alloc (.cells #[.int .i64 vars,.slice Aa na ca,.int .i64 nodes,.int .i64 start,.int .i64 last,.slice Ae n ce] 25)).heap.size _).mono (by simp)
 case round=>
  rename_i v
  obtain⟨k,hk,rfl,hown,hb⟩:=hrel
  have hbw:Below w.heap.size w wr:=((Below.refl _ _).alloc (lrq _) _).trans (hb.out.mono (by simp))
  have c5:=(hb.out.cell (p:=⟨w.heap.size,5,none⟩) (by simp)).trans (newCell w _ _ 5)
  simp only[List.getElem?_toArray,List.getElem?_cons_succ,List.getElem?_cons_zero]at c5
  have hws:w.heap.size+1≤wr.heap.size:=by have:=hb.out.size;simpa using this
  by_cases hlt:k < n
  ·obtain⟨e,he⟩:∃e,l[k]?=some e:=⟨_,List.getElem?_eq_getElem (by rw[←HN.out];exact hlt)⟩
   obtain⟨b,o,rfl,hat⟩:=HX.out.2.2 (by rw[←HN.out];omega)
   obtain⟨hbB,c0,_⟩:=(hat.keep (Same.of hbw hB)).at_ he
   have hfe:fromAt l x k=(e.from_==x):=by simp[fromAt,he]
   have HFE:=hdq hfe
   have HBW:=hdq hbw
   have hil:=idxE_le l x k
   obtain⟨m,hm⟩:=nmq ((idxE l x k).length )
   obtain⟨xs,hxs⟩:=nmq (intsV (idxE l x k))
   have hown':=hown.out
   rw[←hm,←hxs]at hown'
   rw[←hm]at hil
   have HM:=hdq hm
   have HXS:=hdq hxs
   clear hat he hfe hbw hm hxs
   cases hq:e.from_==x
   ·clear hown'
    have HQ:=hdq (show idxE l x (k+1)=idxE l x k from by rw[idxE_succ,HFE.out,hq];rfl)
    go_wp2_with fail
    go_roundw
    case rel=>exact⟨k+1,by omega,by go_num,by rw[Hid,HQ.out];exact hown.out,hb⟩
    case measure=>simp[intOf];omega
   ·have HQ:=hdq (show idxE l x (k+1)=idxE l x k++ [k]from by rw[idxE_succ,HFE.out,hq];rfl)
    go_wp2_with (first
     |(at_builtin;refine wpList_append_own _ rfl _ _ 22 rfl (w.heap.size+1) 3 i0 (.int .i64 0) 1 8 Try.underlying22 hi0 hz0 hz1 hz2 rfl (by decide) _ _ _ rfl (hown'.alloc _) ⟨wr.heap.size,0,none⟩ 1 1 [.int .i64 (k:Int)] rfl rfl ?c1 ?c2 ?c3 ?c4 ?c5 ?_)
     |go_in)
    case c1=>
     intro j u hj
     match j,hj with
     |0,hj=>simp at hj;subst hj;simp[Addr.add]
    case c2=>intro u hu;simp at hu;subst hu;rfl
    case c3=>unfold maxLen;omega
    case c4=>omega
    case c5=>simp;omega
    intro v' w1 hown2 hgrow _
    have hbn:Below (w.heap.size+1) (w.alloc (.cells #[.int .i64 vars,.slice Aa na ca,.int .i64 nodes,.int .i64 start,.int .i64 last,.slice (some ⟨b,o,none⟩) n ce] 25)) w1:=
     (hb.out.alloc hws _).grown hgrow (by simp;omega) (fun g hg=>by
      obtain⟨_,h|⟨g',cap,cur,rfl,h1,_⟩⟩:=hown'
      ·rw[h.1]at hg;simp[Value.ownBlock]at hg
      ·simp[Value.ownBlock]at hg;omega)
    have hown3:w1.ownsRow (w.heap.size+1) 3 1 v' (idxE l x (k+1)).length (intsV (idxE l x (k+1))):=by
     rw[HQ.out,intsV,List.map_append,List.length_append,←HM.out]
     rw[HXS.out]at hown2
     exact hown2
    have HO:=hdq hown3
    have HB2:=hdq hbn
    clear hown2 hgrow hown' hown3 hbn hb c0 c5
    go_wp2_with fail
    go_roundw
    case rel=>exact⟨k+1,by omega,by go_num,HO,HB2⟩
    case measure=>simp[intOf];omega
  ·have hk':k=l.length:=by rw[←HN.out];omega
   have hown2:=hown.out
   rw[hk']at hown2
   obtain⟨A,c,rfl,hs⟩:=isSl_of_owns hown2 (fun i hi=>by have:=idxE_lt l x l.length i hi;rw[←HN.out]at this;omega)
   have HS:=hdq hs
   have HBW:=hdq hbw
   clear hs hown hown2 hb hbw hk'
   go_wp2_with fail
   go_ret
   exact⟨A,c,rfl,HS.out,HBW.out⟩
end Go.Proofs.Ytphlnpaikpjakaa
