/-
  order.Order, order.Heads.
-/
import Derived.Test.YtmfioehnhjjgpaaGreatDoorOrWalk
import Derived.Test.YtmfioehnhjjgpaaGreatDoorJnCk3
import Derived.Test.YtmfioehnhjjgpaaGreatDoorJgFlGreat
import Derived.Test.YtmfioehnhjjgpaaGreatDoorIter
set_option linter.unusedVariables false
set_option linter.unusedSimpArgs false
set_option maxHeartbeats 1600000
set_option maxRecDepth 100000
namespace Go.Proofs.YtmfioehnhjjgpaaGreatDoor
open Go.RowKit Go.Shelf Go.Maps

theorem mem_intKeys {w:World} {b n:Nat} {D:DataW Value} (hown:w.ownsMap Tryz.prog 3 heldE b n D):(intKeys D).Nodup ∧(∀x,x∈intKeys D↔Maps.has D (.int .i64 x)=true)∧∀x∈intKeys D,in64 x:=by
  have hwf:=intKeys_wf hown Tryz.underlying3
  obtain⟨es,hD,hpw,_⟩:=hown.entries intKey
  obtain⟨es',hD',hko⟩:=hown.keysOf
  obtain rfl:es=es':=by rw[hD]at hD';simpa using hD'
  subst hD
  have hk:∀p∈es,∃x,p.1= .int .i64 x:=fun p hp=>by
    obtain⟨v,hv⟩:=hko p hp
    obtain⟨x,_,hx,_⟩:=Maps.keyOf_i64 Tryz.underlying3 hv
    exact⟨x,hx⟩
  refine⟨?_,fun x=>?_,fun x hx=>?_⟩
  · refine List.pairwise_map.2 (hpw.imp_of_mem fun {p q} hp' hq' hne e=>hne ?_)
    obtain⟨a,ha⟩:=hk p hp'
    obtain⟨b,hb⟩:=hk q hq'
    rw[ha,hb]at e ⊢
    exact congrArg _ e
  · rw[has_eq,List.any_eq_true]
    unfold intKeys
    rw[List.mem_map]
    constructor
    · rintro⟨p,hp',rfl⟩
      obtain⟨a,ha⟩:=hk p hp'
      exact⟨p,hp',by rw[ha];simp[Lit.sameKey,Go.intOf]⟩
    · rintro⟨p,hp',hs⟩
      obtain⟨a,ha⟩:=hk p hp'
      rw[ha]at hs
      exact⟨p,hp',by rw[ha];simp[Lit.sameKey]at hs;simp[Go.intOf,hs]⟩
  · simpa[in64,Lit.wf,IntKind.min,IntKind.max,IntKind.signed,IntKind.bits]using hwf x hx

theorem EdAt.rise {w:World} {B B':Nat} (hB:B≤B'):∀ {l:List Ed} {b o:Nat},EdAt w B l b o→EdAt w B' l b o
  | [],_,_,_=>trivial
  |e::r,b,o,hx=>by
    obtain⟨hb,h0,h1,h2,h3,h4,⟨A,c,h5,hs⟩,h6,hok,hr⟩:=hx
    exact⟨Nat.lt_of_lt_of_le hb hB,h0,h1,h2,h3,h4,⟨A,c,h5,hs.more hB⟩,h6,hok,EdAt.rise hB hr⟩
theorem GrSl.rise {w:World} {B B':Nat} (hB:B≤B') {g:Gr} {Aa:Option Addr} {ca:Nat} {Ae:Option Addr} {ce:Nat} (h:GrSl w B g Aa ca Ae ce):GrSl w B' g Aa ca Ae ce:=
  ⟨⟨h.arrays.1,h.arrays.2.1,fun hp=>by obtain⟨b,o,e,hh⟩:=h.arrays.2.2 hp;exact⟨b,o,e,Nat.lt_of_lt_of_le hh.1 hB,hh.2⟩⟩,⟨h.edges.1,h.edges.2.1,fun hp=>by obtain⟨b,o,e,hh⟩:=h.edges.2.2 hp;exact⟨b,o,e,hh.rise hB⟩⟩⟩

theorem sortsI (m:Nat):AnyZI.SortsIn Tryz.prog Tryz.sortedA_ren Fence.wide m:=
  ⟨fun blk off cap ss W hH hblk hsz=>callsIn_wide.2 (AnyM.slices_Sort_int Tryz.sortA blk off cap ss W hH hblk hsz),
   fun p cap W=>callsIn_wide.2 (AnyM.slices_Sort_int_none Tryz.sortA p cap W)⟩
def HeadsL (hs:List Int) (l:List Int):Prop:=l.Nodup∧(∀x,in64 x→(x∈l↔x∈hs))∧∀x∈l,in64 x
def KeysP (w:World) (bh:Nat) (e:Ending) (w':World):Prop:=e= .returned (.func (.func 83) #[] #[.pointer (some ⟨w.heap.size,0,none⟩)])∧w'=w.alloc (.cells #[.map (some bh)] 100)
theorem keys_any (w:World) (bh:Nat):Calls Tryz.prog 46 #[.map (some bh)] w (KeysP w bh):=by
  have h:=AnyZI.keys_in Tryz.keysA Fence.wide 5 trivial rfl (some bh) w
  exact callsIn_wide.1 h
theorem sorted_any (w:World) (bh N:Nat) (hs:List Int) (hz:ZM w bh N (.bool false) (fun y=> .bool (decide (y∈hs))) (fun y=>y∈hs)) (hN:N≤100000):
    Calls Tryz.prog 45 #[.func (.func 83) #[] #[.pointer (some ⟨w.heap.size,0,none⟩)]] (w.alloc (.cells #[.map (some bh)] 100)) fun e w'=>
      ∃v l,e= .returned v∧HeadsL hs l∧w'.ownsRow w.heap.size 3 1 v l.length (intC l)∧l.length≤100000∧Below w.heap.size w w':=by
  obtain⟨D,hown,hD⟩:=hz
  have hsz:=hown.size_le
  have hbl:=hown.lt
  obtain⟨hnd,hmem,h64⟩:=mem_intKeys hown
  have hseq:SeqGives Fence.wide 2 Tryz.prog 83 #[.pointer (some ⟨w.heap.size,0,none⟩)] encZ (fun ss=>ss.Perm (intKeys D)) (Maps.size D) (w.alloc (.cells #[.map (some bh)] 100)):=
    AnyZI.keys_gives (ρ:=Tryz.keysA_ren) {Tryz.keysA with} Fence.wide _ trivial rfl (by omega) w.heap.size bh N D _ (by simp) (by simp) (hown.alloc _)
  have cS:=AnyZI.sorted_in Tryz.sortedA Fence.wide 5 trivial trivial trivial trivial rfl (by omega) (sortsI _) (enters_of Tryz.func82 (by kernel_rfl) rfl) 83 #[.pointer (some ⟨w.heap.size,0,none⟩)] trivial (enters_of Tryz.func83 (by kernel_rfl) rfl) _ _ (by unfold maxLen;omega) (by omega) _ hseq
  refine(callsIn_wide.1 cS).mono ?_
  rintro e w' ⟨v,ss,rfl,hS,hrow,hnil,hb⟩
  have hp:=List.mergeSort_perm ss (fun x y=>decide (x≤y))
  have hlen:=hp.length_eq
  refine⟨v,ss.mergeSort (fun x y=>decide (x≤y)),rfl,⟨(hp.trans hS).nodup_iff.2 hnd,fun x hx=>?_,fun x hx=>h64 x ((hp.trans hS).mem_iff.1 hx)⟩,?_,?_,?_⟩
  · rw[(hp.trans hS).mem_iff,hmem x]
    exact(hD x hx).2
  · rw[hlen]
    rw[World.size_alloc]at hrow
    exact⟨hrow.1,hrow.2.imp id fun⟨g',cap',cur',h1,h2,h3⟩=>⟨g',cap',cur',h1,Nat.le_trans (Nat.le_succ _) h2,h3⟩⟩
  · rw[hlen,hS.length_eq]
    have:(intKeys D).length =Maps.size D:=by
      obtain⟨es,hE,_⟩:=hown.entries intKey
      subst hE
      simp[intKeys,Maps.size_eq]
    omega
  · exact((Below.refl _ w).alloc (Nat.le_refl _) _).trans (hb.mono (by simp))

def OrderP (g:Gr) (W:World) (e:Ending) (w':World):Prop:=
  (mayG g=false∧e= .returned (.tuple #[.slice none 0 0,.int .i64 8])∧Below W.heap.size W w')∨
  (mayG g=true∧∃k gg c,(osN (outI (opairE g.edges)) g.start k).way = []∧e= .returned (.tuple #[.slice (some ⟨gg,0,none⟩) (osN (outI (opairE g.edges)) g.start k).done.length c,.int .i64 0])∧
    w'.ownsRow W.heap.size 3 1 (.slice (some ⟨gg,0,none⟩) (osN (outI (opairE g.edges)) g.start k).done.length c) (osN (outI (opairE g.edges)) g.start k).done.length (intC (osN (outI (opairE g.edges)) g.start k).done.reverse)∧Below W.heap.size W w')
def HeadsP (g:Gr) (W:World) (e:Ending) (w':World):Prop:=
  (mayG g=false∧e= .returned (.tuple #[.slice none 0 0,.int .i64 8])∧Below W.heap.size W w')∨
  (mayG g=true∧∃k v l,(osN (outI (opairE g.edges)) g.start k).way = []∧e= .returned (.tuple #[v,.int .i64 0])∧HeadsL (osN (outI (opairE g.edges)) g.start k).heads l∧
    w'.ownsRow W.heap.size 3 1 v l.length (intC l)∧l.length≤100000∧Below W.heap.size W w')
theorem may_start {g:Gr} (h:mayG g=true):in64 g.start:=by
  have h2:=(mayG_nodes9 h).2.1
  have h3:=(mayG_nodes9 h).2.2.1
  unfold in64
  omega

theorem order_any (g:Gr) (Aa Ae:Option Addr) (ca ce:Nat) (w:World) (hg:GrSl w w.heap.size g Aa ca Ae ce):
    Calls Tryz.prog 12 #[grV g.vars Aa g.arrays.length ca g.nodes g.start g.last Ae g.edges.length ce] w (OrderP g w):=by
  obtain⟨w1,hw1⟩:=nmq (w.alloc (.cells #[.int .i64 g.vars,.slice Aa g.arrays.length ca,.int .i64 g.nodes,.int .i64 g.start,.int .i64 g.last,.slice Ae g.edges.length ce] 33))
  have hf1:Fr NoT w w1:=by rw[hw1];exact(Fr.refl _ _).alloc _
  have hk1:Bk w1 w.heap.size 33 #[.int .i64 g.vars,.slice Aa g.arrays.length ca,.int .i64 g.nodes,.int .i64 g.start,.int .i64 g.last,.slice Ae g.edges.length ce]:=by rw[hw1];exact Bk.new _ _ _
  have hck:=check_any g Aa Ae ca ce w.heap.size w1 hf1.size (hg.keep (Same.of hf1.plain (Nat.le_refl _)))
  have hwk:=fun(W:World) (hf:Fr NoT w W) (hm:mayG g=true)=>owalk_any g Aa Ae ca ce w.heap.size W hf.size (hg.edges.keep (Same.of hf.plain (Nat.le_refl _))) (may_start hm) (mayG_nodes9 hm).1
  unfold grV at hck hwk ⊢
  have HCK:=hdq hck
  have HWK:=hdq hwk
  have HF1:=hdq hf1
  have HK1:=hdq hk1
  have HW1:=hdq hw1
  obtain⟨M,hM⟩:∃M:Int,M=(if mayG g=true then 0 else 8):=⟨_,rfl⟩
  have HM:=hdq hM
  have hways:(M=8∧mayG g=false)∨(M=0∧mayG g=true):=by
    cases h:mayG g
    · rw[h]at hM;exact .inl ⟨hM,rfl⟩
    · rw[h]at hM;exact .inr ⟨hM,rfl⟩
  clear hck hwk hf1 hk1 hw1 hM hg
  go_enter Tryz.func12,Tryz.ntmps12
  go_wp2_with fail
  go_at_call 11
  rw[←HW1.out]
  refine HCK.out.mono ?_
  rintro _ w2 ⟨he,hb2⟩
  rw[←HM.out]at he
  subst he
  have hf2:Fr NoT w1 w2:=Fr.below hb2
  have HF2:=hdq (HF1.out.trans hf2)
  have hk2:=HK1.out.fr0 hf2
  have gc0:=hk2.cell 0
  have gc1:=hk2.cell 1
  have gc2:=hk2.cell 2
  have gc3:=hk2.cell 3
  have gc4:=hk2.cell 4
  have gc5:=hk2.cell 5
  have gl:=hk2.lt
  simp only[List.getElem?_toArray,List.getElem?_cons_succ,List.getElem?_cons_zero]at gc0 gc1 gc2 gc3 gc4 gc5
  clear hk2 hf2 hb2
  rcases hways with⟨rfl,hm⟩|⟨rfl,hm⟩
  · go_wp2_with fail
    go_ret2
    exact .inl ⟨hm,rfl,HF2.out.plain⟩
  · have HMM:=hdq hm
    clear hm
    go_wp2_with fail
    go_at_call 42
    refine(HWK.out w2 HF2.out HMM.out).mono ?_
    rintro _ w3 ⟨k,gg,c,bh,N,hway,rfl,hrow,hz,hN,hbh,hb3⟩
    have HR:=hdq hrow
    have HB:=hdq hb3
    have HY:=hdq hway
    clear hrow hb3 hz hway
    go_wp2_with fail
    go_ret2
    refine .inr ⟨HMM.out,k,gg,c,HY.out,rfl,?_,HF2.out.plain.trans (HB.out.mono HF2.out.size)⟩
    have h:=HR.out
    exact⟨h.1,h.2.imp id fun⟨g',cap',cur',h1,h2,h3⟩=>⟨g',cap',cur',h1,Nat.le_trans HF2.out.size h2,h3⟩⟩

theorem heads_any (g:Gr) (Aa Ae:Option Addr) (ca ce:Nat) (w:World) (hg:GrSl w w.heap.size g Aa ca Ae ce):
    Calls Tryz.prog 15 #[grV g.vars Aa g.arrays.length ca g.nodes g.start g.last Ae g.edges.length ce] w (HeadsP g w):=by
  obtain⟨w1,hw1⟩:=nmq (w.alloc (.cells #[.int .i64 g.vars,.slice Aa g.arrays.length ca,.int .i64 g.nodes,.int .i64 g.start,.int .i64 g.last,.slice Ae g.edges.length ce] 33))
  have hf1:Fr NoT w w1:=by rw[hw1];exact(Fr.refl _ _).alloc _
  have hk1:Bk w1 w.heap.size 33 #[.int .i64 g.vars,.slice Aa g.arrays.length ca,.int .i64 g.nodes,.int .i64 g.start,.int .i64 g.last,.slice Ae g.edges.length ce]:=by rw[hw1];exact Bk.new _ _ _
  have hck:=check_any g Aa Ae ca ce w.heap.size w1 hf1.size (hg.keep (Same.of hf1.plain (Nat.le_refl _)))
  have hwk:=fun(W:World) (hf:Fr NoT w W) (hm:mayG g=true)=>owalk_any g Aa Ae ca ce w.heap.size W hf.size (hg.edges.keep (Same.of hf.plain (Nat.le_refl _))) (may_start hm) (mayG_nodes9 hm).1
  unfold grV at hck hwk ⊢
  have HCK:=hdq hck
  have HWK:=hdq hwk
  have HF1:=hdq hf1
  have HK1:=hdq hk1
  have HW1:=hdq hw1
  obtain⟨M,hM⟩:∃M:Int,M=(if mayG g=true then 0 else 8):=⟨_,rfl⟩
  have HM:=hdq hM
  have hways:(M=8∧mayG g=false)∨(M=0∧mayG g=true):=by
    cases h:mayG g
    · rw[h]at hM;exact .inl ⟨hM,rfl⟩
    · rw[h]at hM;exact .inr ⟨hM,rfl⟩
  clear hck hwk hf1 hk1 hw1 hM hg
  go_enter Tryz.func15,Tryz.ntmps15
  go_wp2_with fail
  go_at_call 11
  rw[←HW1.out]
  refine HCK.out.mono ?_
  rintro _ w2 ⟨he,hb2⟩
  rw[←HM.out]at he
  subst he
  have hf2:Fr NoT w1 w2:=Fr.below hb2
  have HF2:=hdq (HF1.out.trans hf2)
  have hk2:=HK1.out.fr0 hf2
  have gc0:=hk2.cell 0
  have gc1:=hk2.cell 1
  have gc2:=hk2.cell 2
  have gc3:=hk2.cell 3
  have gc4:=hk2.cell 4
  have gc5:=hk2.cell 5
  have gl:=hk2.lt
  simp only[List.getElem?_toArray,List.getElem?_cons_succ,List.getElem?_cons_zero]at gc0 gc1 gc2 gc3 gc4 gc5
  clear hk2 hf2 hb2
  rcases hways with⟨rfl,hm⟩|⟨rfl,hm⟩
  · go_wp2_with fail
    go_ret2
    exact .inl ⟨hm,rfl,HF2.out.plain⟩
  · have HMM:=hdq hm
    clear hm
    go_wp2_with fail
    go_at_call 42
    refine(HWK.out w2 HF2.out HMM.out).mono ?_
    rintro _ w3 ⟨k,gg,c,bh,N,hway,rfl,hrow,hz,hN,hbh,hb3⟩
    have HS:=hdq (sorted_any w3 bh N _ hz hN)
    have HB:=hdq hb3
    have HY:=hdq hway
    clear hrow hb3 hz hway
    go_wp2_with fail
    go_at_call 46
    refine(keys_any w3 bh).mono ?_
    rintro _ _ ⟨rfl,rfl⟩
    go_wp2_with fail
    go_at_call 45
    refine HS.out.mono ?_
    rintro _ w4 ⟨v,l,rfl,hh,hr,hl,hb4⟩
    have HH:=hdq hh
    have HR:=hdq hr
    have HB4:=hdq hb4
    clear hh hr hb4
    go_wp2_with fail
    go_ret2
    have hle:w.heap.size≤w3.heap.size:=Nat.le_trans HF2.out.size HB.out.size
    refine .inr ⟨HMM.out,k,v,l,HY.out,rfl,HH.out,?_,hl,(HF2.out.plain.trans (HB.out.mono HF2.out.size)).trans (HB4.out.mono hle)⟩
    have h:=HR.out
    exact⟨h.1,h.2.imp id fun⟨g',cap',cur',h1,h2,h3⟩=>⟨g',cap',cur',h1,Nat.le_trans hle h2,h3⟩⟩
end Go.Proofs.YtmfioehnhjjgpaaGreatDoor
