/-
  order.walk.
-/
import Derived.Test.YtmfioehnhjjgpaaGreatDoorOrState
import Derived.Test.YtmfioehnhjjgpaaGreatDoorOrScope
import Derived.Test.YtmfioehnhjjgpaaGreatDoorJnCk3
import Derived.Test.YtmfioehnhjjgpaaGreatDoorShelf
import Derived.Deep.RegionHeld3
import Derived.Deep.DrawnRows
import Derived.Sort.OwnSortedInts
set_option linter.unusedVariables false
set_option linter.unusedSimpArgs false
namespace Go.Proofs.YtmfioehnhjjgpaaGreatDoor
open Go.RowKit Go.Shelf Go.Maps
attribute [local go_sem ↓] Go.wp_at_zero Go.wp_at_succ

theorem infoInt9:(Tryz.prog.info? 3).map (fun i=>(i.zero,i.size,i.bytes))=some (some (.int .i64 0),1,8):=by kernel_rfl
theorem infoUnder:(Tryz.prog.info? 155).map (fun i=>(i.zero,i.size,i.bytes))=some (some (.agg #[.int .i64 0,.slice none 0 0]),2,32):=by kernel_rfl
theorem zeroInt9 (w:World):(zeroValue 3).run Tryz.prog w= .ok (.int .i64 0) w:=by kernel_rfl
def opairE (l:List Ed):List (Int×Int):=l.map fun e=>(e.from_,e.to_)

def OWalkP (E:List (Int×Int)) (x:Int) (W:World) (e:Ending) (w':World):Prop:=
  ∃k g c bh N,(osN (outI E) x k).way = []∧e= .returned (.tuple #[.slice (some ⟨g,0,none⟩) (osN (outI E) x k).done.length c,.map (some bh)])∧
    w'.ownsRow W.heap.size 3 1 (.slice (some ⟨g,0,none⟩) (osN (outI E) x k).done.length c) (osN (outI E) x k).done.length (intC (osN (outI E) x k).done.reverse)∧
    ZM w' bh N (.bool false) (fun y=> .bool (decide (y∈(osN (outI E) x k).heads))) (fun y=>y∈(osN (outI E) x k).heads)∧N≤100000∧W.heap.size≤bh∧Below W.heap.size W w'

def OutsR (C:WkC) (bo:Nat) (E:List (Int×Int)):Prop:=
  ∀x,in64 x→∃A c,IsSl C.wB C.wB.heap.size (outI E x) A c∧∀w,Below C.wB.heap.size C.wB w→(Instr.lookup 152 (.map (some bo)) (.int .i64 x) false).run Tryz.prog w= .ok (.slice A (outI E x).length c) w
theorem OM.outsR {w:World} {b base n:Nat} {V:Int→Value} {E:List (Int×Int)} (h:OM w b base n V E) (hE:∀e∈E,in64 e.2) (C:WkC) (hC:C.wB=w):OutsR C b E:=fun x hx=>by
  subst hC
  obtain⟨A,c,hv,hs⟩:=h.sl hE hx
  refine⟨A,c,hs,fun w' hw=>?_⟩
  obtain⟨K,hK⟩:=h.zm
  have:=(hK.fr (T:=fun i=>C.wB.heap.size≤i) (Fr.of hw fun i _ hi=>hi) (by have:=hK.lt;omega)).look Tryz.underlying152 (by kernel_rfl) hx
  rw[hv]at this
  exact this
def WkJ (E:List (Int×Int)) (x:Int) (W:World) (n:Nat) (C:WkC) (bo:Nat) (w':World) (lv wv:Value):Prop:=
  ∃k N rs,n+k=20000∧k+(osN (outI E) x k).mu E≤(osN (outI E) x 0).mu E∧(osN (outI E) x 0).mu E≤10000∧N≤k+1∧C.Ok∧Below W.heap.size W C.wB∧(osN (outI E) x k).done.length ≤k∧(osN (outI E) x k).way.length ≤k+1∧(osN (outI E) x k).way ≠ []∧OutsR C bo E∧(∀e∈E,in64 e.2)∧
    rs.map OwR.of=(osN (outI E) x k).way ∧WkS C w' N wv lv (osN (outI E) x k).come (osN (outI E) x k).done (osN (outI E) x k).heads (osN (outI E) x k).done rs

set_option maxRecDepth 100000 in
set_option maxHeartbeats 6400000 in
theorem owalk_any (g:Gr) (Aa Ae:Option Addr) (ca ce B:Nat) (w:World) (hB:B≤w.heap.size) (hx:EdSl w B g.edges Ae ce) (hs:in64 g.start) (hlen:g.edges.length≤2048):
    Calls Tryz.prog 42 #[grV g.vars Aa g.arrays.length ca g.nodes g.start g.last Ae g.edges.length ce] w (OWalkP (opairE g.edges) g.start w):=by
  obtain⟨i0,hi0,hz0,hz1,hz2⟩:=info_parts infoInt9
  obtain⟨i1,hi1,hy0,hy1,hy2⟩:=info_parts infoUnder
  have hmm:= @run_makeMap Tryz.prog
  obtain⟨hx1,hx2,hx⟩:=hx
  obtain⟨E,hE⟩:=nmq (opairE g.edges)
  rw[←hE]
  obtain⟨l,hl⟩:=nmq g.edges
  rw[←hl]at hx1 hx hlen hE ⊢
  obtain⟨na,hna⟩:=nmq g.arrays.length
  rw[←hna]
  have hX:=hdq hx
  have hS:=hdq hs
  have HE:=hdq hE
  clear hx hs hE hl hna
  unfold grV
  go_enter Tryz.func42,Tryz.ntmps42
  go_wp2_with fail
  obtain⟨T0,hT0⟩:=nmq (Value.agg #[.int .i64 g.vars,.slice Aa na ca,.int .i64 g.nodes,.int .i64 g.start,.int .i64 g.last,.slice Ae l.length ce])
  have HT0:=hdq hT0
  rw[←hT0]
  clear hT0
  refine wp_scope_meet 0 (fun n a' w'=>∃C bo u2 u9,WkJ E g.start w n C bo w' u2 u9∧a'={tmps:= #[T0,.pointer (some ⟨w.heap.size,0,none⟩),u2,.map (some C.bh),.map (some bo),a'.tmps.getD 5 undef,a'.tmps.getD 6 undef,.map (some C.bc),.map (some C.bd),u9,a'.tmps.getD 10 undef,a'.tmps.getD 11 undef,a'.tmps.getD 12 undef,a'.tmps.getD 13 undef,a'.tmps.getD 14 undef,a'.tmps.getD 15 undef,a'.tmps.getD 16 undef,a'.tmps.getD 17 undef,a'.tmps.getD 18 undef,a'.tmps.getD 19 undef,a'.tmps.getD 20 undef,a'.tmps.getD 21 undef,a'.tmps.getD 22 undef,a'.tmps.getD 23 undef,a'.tmps.getD 24 undef,a'.tmps.getD 25 undef,a'.tmps.getD 26 undef,a'.tmps.getD 27 undef,a'.tmps.getD 28 undef,a'.tmps.getD 29 undef,a'.tmps.getD 30 undef,a'.tmps.getD 31 undef,a'.tmps.getD 32 undef,a'.tmps.getD 33 undef,a'.tmps.getD 34 undef,a'.tmps.getD 35 undef,a'.tmps.getD 36 undef,a'.tmps.getD 37 undef,a'.tmps.getD 38 undef,a'.tmps.getD 39 undef,a'.tmps.getD 40 undef,a'.tmps.getD 41 undef,a'.tmps.getD 42 undef,a'.tmps.getD 43 undef,a'.tmps.getD 44 undef,a'.tmps.getD 45 undef,a'.tmps.getD 46 undef,a'.tmps.getD 47 undef,a'.tmps.getD 48 undef,a'.tmps.getD 49 undef,a'.tmps.getD 50 undef,a'.tmps.getD 51 undef,a'.tmps.getD 52 undef,a'.tmps.getD 53 undef,a'.tmps.getD 54 undef,a'.tmps.getD 55 undef,a'.tmps.getD 56 undef,a'.tmps.getD 57 undef,a'.tmps.getD 58 undef,a'.tmps.getD 59 undef,a'.tmps.getD 60 undef,a'.tmps.getD 61 undef,a'.tmps.getD 62 undef,a'.tmps.getD 63 undef,a'.tmps.getD 64 undef,a'.tmps.getD 65 undef,a'.tmps.getD 66 undef,a'.tmps.getD 67 undef,a'.tmps.getD 68 undef,a'.tmps.getD 69 undef,a'.tmps.getD 70 undef,a'.tmps.getD 71 undef,a'.tmps.getD 72 undef,a'.tmps.getD 73 undef,a'.tmps.getD 74 undef,a'.tmps.getD 75 undef,a'.tmps.getD 76 undef,a'.tmps.getD 77 undef,a'.tmps.getD 78 undef,a'.tmps.getD 79 undef,a'.tmps.getD 80 undef,a'.tmps.getD 81 undef,a'.tmps.getD 82 undef,a'.tmps.getD 83 undef,a'.tmps.getD 84 undef,a'.tmps.getD 85 undef,a'.tmps.getD 86 undef,a'.tmps.getD 87 undef,a'.tmps.getD 88 undef,a'.tmps.getD 89 undef,a'.tmps.getD 90 undef,a'.tmps.getD 91 undef,a'.tmps.getD 92 undef,a'.tmps.getD 93 undef,a'.tmps.getD 94 undef,a'.tmps.getD 95 undef,a'.tmps.getD 96 undef,a'.tmps.getD 97 undef,a'.tmps.getD 98 undef,a'.tmps.getD 99 undef,a'.tmps.getD 100 undef,a'.tmps.getD 101 undef,a'.tmps.getD 102 undef,a'.tmps.getD 103 undef,a'.tmps.getD 104 undef,a'.tmps.getD 105 undef,a'.tmps.getD 106 undef,a'.tmps.getD 107 undef,a'.tmps.getD 108 undef,a'.tmps.getD 109 undef,a'.tmps.getD 110 undef,a'.tmps.getD 111 undef,a'.tmps.getD 112 undef,a'.tmps.getD 113 undef,a'.tmps.getD 114 undef],defers:= []}) rfl ?first ?pass
  case first=>
    intro hmeet
    have HM:=hdq hmeet
    clear hmeet
    go_wp2_with fail
    obtain⟨box,hbox⟩:=nmq (Obj.cells #[.int .i64 g.vars,.slice Aa na ca,.int .i64 g.nodes,.int .i64 g.start,.int .i64 g.last,.slice Ae l.length ce] 33)
    have HBOX:=hdq hbox
    have hbk:∀wr,Below (w.heap.size+1) (w.alloc box) wr→Bk wr w.heap.size 33 #[.int .i64 g.vars,.slice Aa na ca,.int .i64 g.nodes,.int .i64 g.start,.int .i64 g.last,.slice Ae l.length ce]:=fun wr h=>by
      have h0:Bk (w.alloc box) w.heap.size 33 #[.int .i64 g.vars,.slice Aa na ca,.int .i64 g.nodes,.int .i64 g.start,.int .i64 g.last,.slice Ae l.length ce]:=by rw[hbox];exact Bk.new _ _ _
      exact(h.block _ (by omega)).trans h0
    have HBK:=hdq hbk
    have hbw:∀wr,Below (w.heap.size+1) (w.alloc box) wr→Below w.heap.size w wr:=fun wr h=>((Below.refl _ _).alloc (Nat.le_refl _) _).trans (h.mono (by simp))
    have HBW:=hdq hbw
    clear hbk hbw
    go_loopw [16] (fun i wr=>∃(k:Nat) (V:Int→Value),k≤l.length∧i= .int .i64 k∧Hid (OM wr (w.heap.size+1) (w.heap.size+2) k V (E.take k))∧Hid (Below (w.heap.size+1) (w.alloc box) wr)∧w.heap.size+2≤wr.heap.size) (fun i _=>l.length - (intOf i).toNat)
    case atStart=>
      refine⟨0,fun _=>nilS,Nat.zero_le _,rfl,?_,?_,by simp⟩
      · have h:=OM.made (w.alloc box)
        rw[World.size_alloc]at h
        rw[←hbox]
        exact h
      · rw[←hbox]
        exact((Below.refl (w.alloc box).heap.size _).alloc (Nat.le_refl _) _).mono (by simp)
    case round=>
      obtain⟨k,V,hk,rfl,hgm,hb,hws⟩:=hrel
      have hbk:=HBK.out wr hb.out
      have g0:=hbk.cell 0
      have g1:=hbk.cell 1
      have g2:=hbk.cell 2
      have g3:=hbk.cell 3
      have g4:=hbk.cell 4
      have g5:=hbk.cell 5
      simp only[List.getElem?_toArray,List.getElem?_cons_succ,List.getElem?_cons_zero]at g0 g1 g2 g3 g4 g5
      clear hbk
      by_cases hlt:k < l.length
      · clear g0 g1 g2 g3 g4 g5
        obtain⟨r,hr⟩:∃r,l[k]?=some r:=⟨_,List.getElem?_eq_getElem hlt⟩
        obtain⟨b,o,rfl,hat⟩:=hX.out (by omega)
        obtain⟨hbB,c0,c1,c2,c3,c4,⟨A5,n5,c5,_⟩,c6,hok⟩:=(hat.keep (Same.of (HBW.out wr hb.out) hB)).at_ hr
        have HR:=hdq hr
        have HAT:=hdq hat
        have hx64:in64 r.from_:=hok.1
        have ht64:in64 r.to_:=hok.2.1
        have hrow:=hgm.out.rows r.from_ hx64
        have hml:(outI (E.take k) r.from_).length ≤k:=by
          unfold outI
          rw[List.length_map]
          exact Nat.le_trans (List.length_filter_le _ _) (by simp;omega)
        obtain⟨m,hm⟩:=nmq ((outI (E.take k) r.from_).length )
        obtain⟨xs,hxs⟩:=nmq (intC (outI (E.take k) r.from_))
        obtain⟨v,hv⟩:=nmq (V r.from_)
        rw[←hm,←hxs,←hv]at hrow
        rw[←hm]at hml
        have HM2:=hdq hm
        have HXS:=hdq hxs
        have HV:=hdq hv
        have hL:∀W,wr.grownBy W none→(Instr.lookup 152 (.map (some (w.heap.size+1))) (.int .i64 r.from_) false).run Tryz.prog W= .ok v W:=fun W hW=>by rw[hv];exact(hgm.out.kept hW).look hx64
        have hL1:=hL _ (only_drew (World.grownBy_alloc wr (.cells #[.int .i64 r.from_,.int .i64 r.to_,.int .u8 r.kind,.int .i64 r.n,.int .u8 r.cmp,.slice A5 r.args.len n5,.int .i64 r.at_] 45) none))
        have hL2:=hL _ (only_drew (only_alloc (World.grownBy_alloc wr (.cells #[.int .i64 r.from_,.int .i64 r.to_,.int .u8 r.kind,.int .i64 r.n,.int .u8 r.cmp,.slice A5 r.args.len n5,.int .i64 r.at_] 45) none) (.cells #[.int .i64 r.to_] 3)))
        have HX:=hdq hx64
        have hne2:some wr.heap.size≠some (w.heap.size+1):=by simp;omega
        have hvb:v.ownBlock≠some wr.heap.size:=fun e=>by have:=(hrow.lt _ e).2;omega
        clear hm hxs hv hL hx64 hr hat hok ht64
        go_wp2_with fail
        go_region_held3 (fun w'=>w'.cell? ⟨wr.heap.size,0,none⟩=some (.int .i64 r.from_)∧w'.cell? ⟨wr.heap.size,1,none⟩=some (.int .i64 r.to_))
          (first
            | (go_split_ands
               refine⟨by go_keep,by go_keep⟩)
            | (go_split_ands
               refine⟨?_,?_⟩
               all_goals((rw[hg2.cell_far _ hsz1 hne2];assumption)))
            | (go_split_ands
               refine⟨?_,?_⟩
               all_goals((rw[hgrow.cell_far _ (by simp;omega) (Ne.symm hvb)];simp))))
          ((refine step_append_lies _ (by rfl) _ _ _ (by rfl) (w.heap.size+2) 3 i0 _ 1 8 Tryz.underlying30 hi0 hz0 hz1 hz2 rfl (by omega) v m xs (by rfl) (((hrow.alloc _).alloc _).drew)
              ⟨wr.heap.size+1,0,none⟩ 1 1 [.int .i64 r.to_] (by rfl) (by rfl) (World.news_of_block (cs:= #[.int .i64 r.to_]) (t:=3) (fr:=(0,0)) (heap_new2 wr _ _)) (by simp[Value.oneCell'])
              (by omega) (by unfold maxLen;omega) (by omega) (by simp;omega) (wr.heap.size+1+1) (by simp) ?_;intro gg cap w1 hown1 hgrow hat hltg;have hsz1:wr.heap.size < w1.heap.size:=Nat.lt_of_lt_of_le (by simp<;>omega) hgrow.size;obtain⟨w2,hupd,hgm2,hg2⟩:=hgm.out.step (r.from_,r.to_) HX.out (.slice (some ⟨gg,0,none⟩) (m+1) cap) (by unfold maxLen;omega) (by show World.grownBy _ _ (V r.from_).ownBlock;rw[←HV.out];exact(only_drew (only_alloc (World.grownBy_alloc wr _ _) _)).trans hgrow) (by show World.ownsRow _ _ _ _ _ ((outI (E.take k) r.from_).length +1) _;rw[←HM2.out,←HXS.out];exact hown1) (by show _=(V r.from_).ownBlock ∨_;rw[←HV.out];simp only[Value.ownBlock];rcases hat with e|e;exact .inl e.symm;exact .inr ⟨gg,rfl,by omega⟩)))
        all_goals
          have hbn:Below (w.heap.size+1) (w.alloc box) w2:=by
            have h1:=((hb.out.alloc (Nat.le_trans (by omega) hws) (.cells #[.int .i64 r.from_,.int .i64 r.to_,.int .u8 r.kind,.int .i64 r.n,.int .u8 r.cmp,.slice A5 r.args.len n5,.int .i64 r.at_] 45)).alloc (by simp;omega) (.cells #[.int .i64 r.to_] 3)).drew
            have h2:=h1.grown hgrow (by simp;omega) (fun g hg=>by have:=(hrow.lt g hg).1;omega)
            exact h2.grown hg2 (by omega) (fun g hg=>by simp at hg;omega)
          have hws2:w.heap.size+2≤w2.heap.size:=by have h1:=hg2.size;omega
          have ht:E.take k++ [(r.from_,r.to_)]=E.take (k+1):=by
            have hEk:E[k]?=some (r.from_,r.to_):=by rw[HE.out,opairE,List.getElem?_map,HR.out];rfl
            obtain⟨hi,e⟩:=List.getElem?_eq_some_iff.1 hEk
            rw[List.take_succ_eq_append_getElem hi,e]
          rw[ht]at hgm2
          have HG2:=hdq hgm2
          have HBN:=hdq hbn
          clear hgm2 hL1 hL2 hupd ht c0 c1 c2 c3 c4 c5 c6 hgrow hown1 hg2 hrow hbn
          go_wp2_with fail
          go_roundw
          case rel=>exact⟨k+1,_,by omega,by go_num,HG2,HBN,hws2⟩
          case measure=>simp[intOf];omega
      · have hk':k=l.length:=by omega
        have hom:OM wr (w.heap.size+1) (w.heap.size+2) k V E:=by
          have h:=hgm.out
          rw[hk',show E.take l.length=E from List.take_of_length_le (by rw[HE.out];simp[opairE])]at h
          rw[hk']
          exact h
        have hE64:∀e∈E,in64 e.2:=by
          intro e he
          rw[HE.out,opairE]at he
          obtain⟨r,hr,rfl⟩:=List.mem_map.1 he
          obtain⟨i,hi⟩:=List.mem_iff_getElem?.1 hr
          obtain⟨b,o,_,hat⟩:=hX.out (by have:=(List.getElem?_eq_some_iff.1 hi).1;omega)
          exact(hat.at_ hi).2.2.2.2.2.2.2.2.2.1
        have hbwr:=HBW.out wr hb.out
        obtain⟨w1,hu1,hzm,hg1⟩:=(ZM.made wr (.int .i64 0)).put Tryz.underlying153 hS.out (.int .i64 1) (by unfold maxLen;omega)
        have hsz1:wr.heap.size+1≤w1.heap.size:=by have:=hg1.size;simpa using this
        have hor:=hom.outsR hE64 ⟨wr,wr.heap.size,w1.heap.size,w1.heap.size+1,w1.heap.size+2⟩ rfl
        obtain⟨A9,c9,hsl,hlk⟩:=hor g.start hS.out
        obtain⟨hCok,hW0⟩:=WkS.start wr w1 g.start _ A9 c9 hS.out hzm hg1 hsl
        have hfb:Below wr.heap.size wr ((w1.alloc (.map #[] 0)).alloc (.map #[] 0)):=by
          have h0:Below wr.heap.size wr (wr.alloc (.map #[] 0)):=(Below.refl _ _).alloc (Nat.le_refl _) _
          have h1:=h0.grown hg1 (by simp) (fun g e=>by simp at e;omega)
          exact(h1.alloc (by omega) _).alloc (by simp;omega) _
        have hlk1:=hlk _ hfb
        have p3:w1.cell? ⟨w.heap.size,3,none⟩=some (.int .i64 g.start):=hg1.cell ((Below.heap_alloc wr (.map #[] 0) w.heap.size (by omega) |> World.cell?_of_block (a:=⟨w.heap.size,3,none⟩)).trans g3) (by simp;omega)
        have hml:(osN (outI E) g.start 0).mu E≤10000:=by
          have:=mu0_le E g.start
          have he:E.length=l.length:=by rw[HE.out];simp[opairE]
          omega
        have HJ:=hdq (show WkJ E g.start w 20000 ⟨wr,wr.heap.size,w1.heap.size,w1.heap.size+1,w1.heap.size+2⟩ (w.heap.size+1) _ _ _ from
          ⟨0,1, [⟨g.start,outI E g.start,A9,c9⟩],rfl,by omega,hml,by omega,hCok,hbwr,by simp[osN,os0],by simp[osN,os0],by simp[osN,os0],hor,hE64,rfl,hW0⟩)
        have hwl:w.heap.size < wr.heap.size:=by omega
        have hwl1:w.heap.size < w1.heap.size:=by omega
        clear hor hsl hlk hCok hW0 hfb hzm hg1 hom hml hE64 hgm hk' hb
        go_wp2_with fail
        go_step3
        rename_i hK
        refine hK _ _ (HM.out 20000 _ _ ?_)
        refine⟨_,_,_,_,HJ.out,?_⟩
        kernel_rfl
  case pass=>
    rintro n a' w1 ⟨C,bo,u2,u9,hJ,ha⟩
    obtain⟨u,rfl⟩:∃u:Nat→Value,a'={tmps:= #[T0,.pointer (some ⟨w.heap.size,0,none⟩),u2,.map (some C.bh),.map (some bo),u 5,u 6,.map (some C.bc),.map (some C.bd),u9,u 10,u 11,u 12,u 13,u 14,u 15,u 16,u 17,u 18,u 19,u 20,u 21,u 22,u 23,u 24,u 25,u 26,u 27,u 28,u 29,u 30,u 31,u 32,u 33,u 34,u 35,u 36,u 37,u 38,u 39,u 40,u 41,u 42,u 43,u 44,u 45,u 46,u 47,u 48,u 49,u 50,u 51,u 52,u 53,u 54,u 55,u 56,u 57,u 58,u 59,u 60,u 61,u 62,u 63,u 64,u 65,u 66,u 67,u 68,u 69,u 70,u 71,u 72,u 73,u 74,u 75,u 76,u 77,u 78,u 79,u 80,u 81,u 82,u 83,u 84,u 85,u 86,u 87,u 88,u 89,u 90,u 91,u 92,u 93,u 94,u 95,u 96,u 97,u 98,u 99,u 100,u 101,u 102,u 103,u 104,u 105,u 106,u 107,u 108,u 109,u 110,u 111,u 112,u 113,u 114],defers:= []}:=⟨fun i=>a'.tmps.getD i undef,ha⟩
    clear ha
    obtain⟨k,N,rs,hnk,hmu,hmu0,hN,hC,hbC,hdl,hwl,hne,hor,hE64,hrs,hW⟩:=hJ
    have hk1:k≤10000:=by omega
    have hmu1:=OS.mu_step (E:=E) hne
    have hln:=OS.step_lens (outI E) (osN (outI E) g.start k)
    have hnx:∀(w':World) (lv wv:Value) (N':Nat) (rs':List OwR),N'≤k+2→(osN (outI E) g.start (k+1)).way ≠ []→rs'.map OwR.of=(osN (outI E) g.start (k+1)).way →
        WkS C w' N' wv lv (osN (outI E) g.start (k+1)).come (osN (outI E) g.start (k+1)).done (osN (outI E) g.start (k+1)).heads (osN (outI E) g.start (k+1)).done rs'→WkJ E g.start w (n - 1) C bo w' lv wv:=
      fun w' lv wv N' rs' h1 h2 h3 h4=>⟨k+1,N',rs',by omega,by
        have:(osN (outI E) g.start (k+1)).mu E < (osN (outI E) g.start k).mu E:=hmu1
        omega,hmu0,h1,hC,hbC,by have:=hln.1;show((osN (outI E) g.start k).step (outI E)).done.length ≤_;omega,by have:=hln.2;show((osN (outI E) g.start k).step (outI E)).way.length ≤_;omega,h2,hor,hE64,h3,h4⟩
    have HNX:=hdq hnx
    clear hnx
    obtain⟨⟨cs,ds,hs,wy⟩,hst⟩:=nmq (osN (outI E) g.start k)
    have hst1:osN (outI E) g.start (k+1)=OS.step (outI E) ⟨cs,ds,hs,wy⟩:=by rw[hst];rfl
    rw[←hst]at hne hrs hW hdl hwl
    simp only at hne hrs hW hdl hwl
    obtain⟨⟨rn,rl,rA,rc⟩,rt,rfl⟩:∃r rt,rs=r::rt:=by
      cases rs with
      |nil=>exact absurd hrs.symm hne
      |cons r rt=>exact⟨r,rt,rfl⟩
    simp only[List.map_cons,OwR.of]at hrs
    obtain⟨gw,cw,rfl,hcw1,hcw2,hgw,q0,q1,qf⟩:=hW.top
    simp only at q0 q1
    obtain⟨hn64,hrl⟩:=hW.sl _ (List.mem_cons_self ..)
    simp only at hn64 hrl
    have hm:rt.length≤10000:=by
      have h:=congrArg List.length hrs
      simp at h
      omega
    have hdl':ds.length≤10000:=by omega
    obtain⟨m,hmm'⟩:=nmq rt.length
    have HMM:=hdq hmm'
    have hW0:=hW
    rw[←hmm']at q0 q1 qf hcw1 hW hm ⊢
    have hw1:wrap64 (((m+1:Nat):Int) - 1)=m:=by unfold wrap64;omega
    rcases rl with _|⟨t,l'⟩
    · skip
      have hst2:osN (outI E) g.start (k+1)=⟨cs,ds++ [rn],hs,rt.map OwR.of⟩:=by rw[hst1,←hrs];simp[OS.step]
      obtain⟨w2,hu2,hW2,hg2⟩:=hW0.setDone hC rn hn64 (by unfold maxLen;omega)
      have hgL:C.L≤gw:=hW0.wayL gw rfl
      have hne2:some gw≠some C.bd:=by have:=hC.dL;simp;omega
      have q0':=hg2.cell q0 hne2
      have hgw2:gw < w2.heap.size:=Nat.lt_of_lt_of_le hgw hg2.size
      have hb3:C.L≤w2.heap.size:=hW2.L
      have hW4:=hW2.grow0 (World.grownBy_alloc w2 (.cells #[.int .i64 rn] 3) none)
      have hlist:=hW4.list
      obtain⟨nd,hnd⟩:=nmq ds.length
      obtain⟨xs,hxs⟩:=nmq (intC ds)
      rw[←hnd,←hxs]at hlist
      rw[←hnd]at hdl'
      have hL:∀w5 gg cap,w5.ownsRow C.L 3 1 (.slice (some ⟨gg,0,none⟩) (nd+1) cap) (nd+1) (xs++ [.int .i64 rn])→(w2.alloc (.cells #[.int .i64 rn] 3)).grownBy w5 u2.ownBlock→(u2.ownBlock=some gg∨gg=w2.heap.size+1)→
          WkS C w5 (N+1) (.slice (some ⟨gw,0,none⟩) m cw) (.slice (some ⟨gg,0,none⟩) (nd+1) cap) cs (ds++ [rn]) hs (ds++ [rn]) rt:=fun w5 gg cap ho hg ha=>by
        have h:=hW4.listed hC rn (lv':= .slice (some ⟨gg,0,none⟩) (nd+1) cap) hg (by rw[←hnd,←hxs];exact ho) (ha.imp (fun h=>h.symm) fun h=>⟨gg,rfl,by simp;omega⟩) (by simp[Value.ownBlock])
        have h2:=WkS.pop h
        rw[←hmm']at h2
        exact h2
      have HL:=hdq hL
      have HST:=hdq hst2
      have HC:=hdq hC
      have HND:=hdq hnd
      have HXS:=hdq hxs
      have HBC:=hdq hbC
      clear hW2 hg2 hW hW0 hst hst1 hst2 hor hW4 hL hxs hnd hC hmm' hbC
      have hw0:¬((m:Int) < 0):=by omega
      by_cases hm0:0 < m
      · go_wp2_with (first|(at_builtin;refine Stop.go ?_)|go_in)
        unfold Stop
        refine wpList_append_lies _ rfl _ _ 30 rfl C.L 3 i0 _ 1 8 Tryz.underlying30 hi0 hz0 hz1 hz2 rfl (by omega) _ nd xs rfl hlist ⟨w2.heap.size,0,none⟩ 1 1 [.int .i64 rn] rfl rfl ?_ ?_ (by omega) ?_ ?_ ?_ _ rfl ?_
        · exact World.news_of_block (cs:= #[.int .i64 rn]) (t:=3) (fr:=(0,0)) (heap_alloc_new w2 _)
        · simp[Value.oneCell']
        · unfold maxLen;omega
        · omega
        · simp;omega
        intro gg cap w5 ho hg ha hlt5
        go_wp2_with fail
        go_step3
        refine⟨rfl,n - 1,by omega,C,bo,_,_,HNX.out w5 _ _ (N+1) rt (by omega) ?_ (by rw[HST.out]) (by rw[HST.out];exact HL.out w5 gg cap ho hg (ha.imp (fun h=>h) fun h=>by simpa using h)),?_⟩
        · rw[HST.out]
          intro e
          have e2:=congrArg List.length e
          simp at e2
          have:=HMM.out
          rw[e2]at this
          simp at this
          omega
        kernel_rfl
      · obtain rfl:m=0:=by omega
        have hrt:rt= []:=List.length_eq_zero_iff.1 HMM.out.symm
        have hrv:∀w5 gg cap,w5.ownsRow C.L 3 1 (.slice (some ⟨gg,0,none⟩) (nd+1) cap) (nd+1) (xs++ [.int .i64 rn])→
            Calls Tryz.prog 80 #[.slice (some ⟨gg,0,none⟩) (nd+1) cap] w5 fun e w6=>e= .returned (.tuple #[])∧w6.ownsRow C.L 3 1 (.slice (some ⟨gg,0,none⟩) (nd+1) cap) (nd+1) (intC (ds++ [rn]).reverse)∧w5.grownBy w6 (some gg):=fun w5 gg cap ho=>by
          have ho':w5.ownsRow C.L 3 1 (.slice (some ⟨gg,0,none⟩) (nd+1) cap) (nd+1) (intC (ds++ [rn])):=by
            have e:intC (ds++ [rn])=xs++ [.int .i64 rn]:=by rw[HXS.out];simp[intC]
            rw[e]
            exact ho
          have hle:(ds++ [rn]).length =nd+1:=by rw[HND.out];simp
          have h:=Tryz.slices_Reverse_int gg 0 cap (ds++ [rn]) w5 (row_holds ho') (by omega)
          rw[hle]at h
          refine h.mono ?_
          rintro _ w6 ⟨rfl,k6,h6⟩
          exact⟨rfl,row_rev ho' h6⟩
        have HRV:=hdq hrv
        have HRT:=hdq hrt
        clear hrv hrt
        go_wp2_with (first|(at_builtin;refine Stop.go ?_)|go_in)
        unfold Stop
        refine wpList_append_lies _ rfl _ _ 30 rfl C.L 3 i0 _ 1 8 Tryz.underlying30 hi0 hz0 hz1 hz2 rfl (by omega) _ nd xs rfl hlist ⟨w2.heap.size,0,none⟩ 1 1 [.int .i64 rn] rfl rfl ?_ ?_ (by omega) ?_ ?_ ?_ _ rfl ?_
        · exact World.news_of_block (cs:= #[.int .i64 rn]) (t:=3) (fr:=(0,0)) (heap_alloc_new w2 _)
        · simp[Value.oneCell']
        · unfold maxLen;omega
        · omega
        · simp;omega
        intro gg cap w5 ho hg ha hlt5
        have hW5:=HL.out w5 gg cap ho hg (ha.imp (fun h=>h) fun h=>by simpa using h)
        have hgg:C.L≤gg:=(ho.lt gg rfl).1
        have HW5:=hdq hW5
        have HR:=hdq (HRV.out w5 gg cap ho)
        clear hW5 hg ho ha
        go_wp2_with fail
        go_at_call 80
        refine HR.out.mono ?_
        rintro _ w6 ⟨rfl,ho6,hg6⟩
        go_wp2_with fail
        simp only[Exit.jump]
        go_ret2
        have hC1:=HC.out
        have hbb:=HW5.out.below.grown hg6 HW5.out.below.size (fun g e=>by have:=hC1.c;have:=hC1.cL;cases e;omega)
        have hwl:w.heap.size≤C.wB.heap.size:=HBC.out.size
        have hst3:=HST.out
        rw[HRT.out]at hst3
        have hlen3:(osN (outI E) g.start (k+1)).done.length =nd+1:=by rw[hst3,HND.out];simp
        refine⟨k+1,gg,cap,C.bh,N+1,by rw[hst3];rfl,by rw[hlen3];rfl,?_,?_,by omega,?_,?_⟩
        · rw[hlen3,hst3]
          exact⟨ho6.1,ho6.2.imp id fun⟨g',cap',cur',h1,h2,h3⟩=>⟨g',cap',cur',h1,by have:=hC1.c;have:=hC1.cL;omega,h3⟩⟩
        · rw[hst3]
          exact HW5.out.heads.kept hg6 (by have:=hC1.hL;simp;omega)
        · have:=hC1.h
          omega
        · exact HBC.out.trans (hbb.mono hwl)
    · obtain⟨hr1,hr2,hr3⟩:=hrl
      obtain⟨rb,ro,rfl,hrlt,hrat⟩:=hr3 (by simp)
      have ht0:=hrat 0 t rfl
      obtain⟨ht1,ht64⟩:=ht0
      have ht2:w1.cell? ⟨rb,ro+0,none⟩=some (.int .i64 t):=(hW.below.cell (p:=⟨rb,ro+0,none⟩) hrlt).trans ht1
      have hrlt1:rb < w1.heap.size:=Nat.lt_of_lt_of_le hrlt hW.below.size
      simp only[Nat.add_zero]at ht2
      simp only[List.length_cons]at hr1
      obtain⟨oo,cc,hoo,hsl'⟩:∃oo cc,((rc=1∧oo=ro∧cc=0∧l'= [])∨(¬rc=1∧oo=ro+1∧cc=rc - 1))∧IsSl C.wB C.wB.heap.size l' (some ⟨rb,oo,none⟩) cc:=by
        by_cases h1:rc=1
        · refine⟨ro,0,.inl ⟨h1,rfl,rfl,List.length_eq_zero_iff.1 (by omega)⟩,by omega,by omega,fun hp=>by omega⟩
        · exact⟨ro+1,rc - 1,.inr ⟨h1,rfl,rfl⟩,by omega,by omega,fun hp=>⟨rb,ro+1,rfl,hrlt,fun i n hi=>by
            have:=hrat (i+1) n (by simpa using hi)
            rw[show ro+(i+1)=ro+1+i from by omega]at this
            exact this⟩⟩
      obtain⟨hW2,hg2⟩:=WkS.left hW0 hC l' _ _ hsl'
      simp only at hW2 hg2
      rw[←hmm']at hW2 hg2
      obtain⟨w2,hw2⟩:=nmq (w1.setCell ⟨gw,m*2+1,none⟩ (.slice (some ⟨rb,oo,none⟩) l'.length cc))
      rw[←hw2]at hW2 hg2
      have HW2:=hdq hw2
      by_cases hc:t∈cs
      · by_cases hd:t∈ds
        · have hst2:osN (outI E) g.start (k+1)=⟨cs,ds,hs,(rn,l')::rt.map OwR.of⟩:=by rw[hst1,←hrs];simp[OS.step,hc,hd]
          have l1:=hW2.come.look Tryz.underlying153 (zeroInt9 w2) ht64
          have l2:=hW2.done.look Tryz.underlying153 (zeroInt9 w2) ht64
          unfold onumB at l1 l2
          rw[if_pos hc]at l1
          rw[if_pos hd]at l2
          rw[hw2]at l1 l2
          have HJ:=hdq (show WkJ E g.start w (n - 1) C bo w2 _ _ from HNX.out w2 _ _ N (⟨rn,l',some ⟨rb,oo,none⟩,cc⟩::rt) (by omega) (by rw[hst2];simp) (by rw[hst2];rfl) (by rw[hst2];exact hW2))
          clear hW2 hg2 hw2 hW hW0 hst hst1 hst2 hor hrat hr3 hmm' hsl'
          rcases hoo with⟨rfl,rfl,rfl,rfl⟩|⟨h1,rfl,rfl⟩
          all_goals
            (try simp only[List.length_nil]at l1 l2)
            go_wp2_with fail
            go_step3
            have h:=HJ.out
            rw[HW2.out]at h
            (try simp only[List.length_nil]at h)
            refine⟨rfl,n - 1,by omega,C,bo,_,_,h,?_⟩
            kernel_rfl
        · skip
          have hst2:osN (outI E) g.start (k+1)=⟨cs,ds,t::hs,(rn,l')::rt.map OwR.of⟩:=by rw[hst1,←hrs];simp[OS.step,hc,hd]
          have l1:=hW2.come.look Tryz.underlying153 (zeroInt9 w2) ht64
          have l2:=hW2.done.look Tryz.underlying153 (zeroInt9 w2) ht64
          unfold onumB at l1 l2
          rw[if_pos hc]at l1
          rw[if_neg hd]at l2
          obtain⟨w3,hu3,hW3,hg3⟩:=hW2.setHeads hC t ht64 (by unfold maxLen;omega)
          rw[hw2]at l1 l2 hu3
          have HJ:=hdq (show WkJ E g.start w (n - 1) C bo w3 _ _ from HNX.out w3 _ _ (N+1) (⟨rn,l',some ⟨rb,oo,none⟩,cc⟩::rt) (by omega) (by rw[hst2];simp) (by rw[hst2];rfl) (by rw[hst2];exact hW3))
          clear hW2 hg2 hw2 hW hW0 hst hst1 hst2 hor hrat hr3 hmm' hsl' hW3 hg3
          rcases hoo with⟨rfl,rfl,rfl,rfl⟩|⟨h1,rfl,rfl⟩
          all_goals
            (try simp only[List.length_nil]at l1 l2 hu3)
            go_wp2_with fail
            go_step3
            refine⟨rfl,n - 1,by omega,C,bo,_,_,HJ.out,?_⟩
            kernel_rfl
      · skip
        have hst2:osN (outI E) g.start (k+1)=⟨t::cs,ds,hs,(t,outI E t)::(rn,l')::rt.map OwR.of⟩:=by rw[hst1,←hrs];simp[OS.step,hc]
        have l1:=hW2.come.look Tryz.underlying153 (zeroInt9 w2) ht64
        unfold onumB at l1
        rw[if_neg hc]at l1
        obtain⟨w3,hu3,hW3,hg3⟩:=hW2.setCome hC t ht64 (by unfold maxLen;omega)
        obtain⟨A8,c8,hsl8,hlk⟩:=hor t ht64
        have l3:=hlk w3 hW3.below
        rw[hw2]at l1 hu3
        have hW4:=hW3.grow0 (World.grownBy_alloc w3 (.cells #[.int .i64 t,.slice A8 (outI E t).length c8] 155) none)
        have hway:=hW4.way
        obtain⟨xs,hxs⟩:=nmq (owayC (⟨rn,l',some ⟨rb,oo,none⟩,cc⟩::rt))
        rw[←hxs]at hway
        simp only[List.length_cons]at hway
        rw[←hmm']at hway
        have hJ:∀w5 gg cap,w5.ownsRow C.L 155 2 (.slice (some ⟨gg,0,none⟩) (m+1+1) cap) (m+1+1) (xs++ [.int .i64 t,.slice A8 (outI E t).length c8])→(w3.alloc (.cells #[.int .i64 t,.slice A8 (outI E t).length c8] 155)).grownBy w5 (some gw)→(some gw=some gg∨gg=w3.heap.size+1)→
            WkJ E g.start w (n - 1) C bo w5 u2 (.slice (some ⟨gg,0,none⟩) (m+1+1) cap):=fun w5 gg cap ho hg ha=>by
          refine HNX.out w5 _ _ (N+1) (⟨t,outI E t,A8,c8⟩::⟨rn,l',some ⟨rb,oo,none⟩,cc⟩::rt) (by omega) (by rw[hst2];simp) (by rw[hst2];rfl) ?_
          rw[hst2]
          refine hW4.push hC ⟨t,outI E t,A8,c8⟩ ⟨ht64,hsl8⟩ hg ?_ (ha.imp (fun h=>h.symm) fun h=>⟨gg,rfl,by simp;omega⟩)
          show w5.ownsRow C.L 155 2 _ (rt.length+1+1) _
          rw[←hmm',←hxs]
          exact ho
        have HJ:=hdq hJ
        have hb3:C.L≤w3.heap.size:=hW3.L
        clear hW2 hg2 hw2 hW hW0 hst hst1 hst2 hor hrat hr3 hmm' hsl' hW3 hg3 hW4 hJ hxs hsl8 hlk
        rcases hoo with⟨rfl,rfl,rfl,rfl⟩|⟨h1,rfl,rfl⟩
        all_goals
          (try simp only[List.length_nil]at l1 hu3 hway)
          go_wp2_with (first|(at_builtin;refine Stop.go ?_)|go_in)
          unfold Stop
          refine wpList_append_lies _ rfl _ _ 156 rfl C.L 155 i1 _ 2 32 Tryz.underlying156 hi1 hy0 hy1 hy2 rfl (by omega) _ (m+1) xs rfl hway ⟨w3.heap.size,0,none⟩ 1 1 [.int .i64 t,.slice A8 (outI E t).length c8] rfl rfl ?_ ?_ (by omega) ?_ ?_ ?_ _ rfl ?_
          · exact World.news_of_block (cs:= #[.int .i64 t,.slice A8 (outI E t).length c8]) (t:=155) (fr:=(0,0)) (heap_alloc_new w3 _)
          · simp[Value.oneCell']
          · unfold maxLen;omega
          · omega
          · simp;omega
          intro gg cap w5 ho hg ha hlt5
          go_wp2_with fail
          go_step3
          refine⟨rfl,n - 1,by omega,C,bo,_,_,HJ.out w5 gg cap ho hg (ha.imp (fun h=>h) fun h=>by simpa using h),?_⟩
          kernel_rfl
end Go.Proofs.YtmfioehnhjjgpaaGreatDoor
