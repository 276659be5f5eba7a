/-
  facetroomref26.one: its walk.
-/
import Derived.Test.YtphlnpaikpjakaaPjOne2
set_option linter.unusedVariables false
set_option linter.unusedSimpArgs false
namespace Go.Proofs.Ytphlnpaikpjakaa
open Go.RowKit Go.Shelf

def OneP (L:Nat) (out:List Int) (W:World) (e:Ending) (w':World):Prop:=∃y',e= .returned y'∧RowN w' L out y'∧Below W.heap.size W w'
theorem isl_nat {f:List Int} {n:Nat} (h:∀x∈f,0≤x∧x < n) {i:Nat} (hi:i < f.length):∃ni:Nat,f[i]?=some (ni:Int)∧ni < n:=by
 have h1:=h _ (List.getElem_mem hi)
 exact⟨f[i].toNat,by rw[List.getElem?_eq_getElem hi];congr 1;omega,by omega⟩
set_option maxRecDepth 100000 in
set_option maxHeartbeats 3200000 in
theorem oneR_any (f sc:List Int) (most:Int) (y:Value) (As:Option Addr) (cs L:Nat) (w:World) (hL:L≤w.heap.size) (hf:RowN w L f y) (hs:IsSl w w.heap.size sc As cs) (hn32:f.length≤32) (hfn:∀x∈f,0≤x∧x < (f.length:Nat)) (hsn:∀x∈sc,0≤x∧x < (f.length:Nat)):
  Calls Try.prog 45 #[y,.slice As sc.length cs,.int .i64 most] w (OneP L (oneL f sc most) w):=by
 have hsl:sc.length≤9223372036854775807:=leq9 hs.1 hs.2.1
 obtain⟨n,hn⟩:=nmq f.length
 obtain⟨ns,hns⟩:=nmq sc.length
 have hf':=hf
 unfold RowN at hf'
 rw[←hn]at hn32 hfn hsn hf'
 rw[←hns]at hsl ⊢
 have HN:=hdq hn
 have HNS:=hdq hns
 have HS:=hdq hs
 obtain⟨i0,hi,hz0,hz1,hz2⟩:=info_parts infoInt7
 have HI:=hdq (aiq hi (aiq hz0 (aiq hz1 hz2)))
 have hmk:=fun(W:World)=>run_mkB n (by omega) W
 obtain⟨nz,hnz⟩:=nmq ((List.replicate n (Value.bool false)).toArray )
 simp only[←hnz]at hmk
 have HNZ:=hdq hnz
 clear hi hz0 hz1 hz2 hnz hs
 have HF:=hdq hf
 have HFO:=hdq hf'
 have HFN:=hdq hfn
 have HSN:=hdq hsn
 obtain⟨w1,hw1⟩:=nmq (w.alloc (.cells nz 4))
 have hb1:Below w.heap.size w w1:=by rw[hw1];exact(Below.refl _ _).alloc (lrq _) _
 have HM0:=hdq (show MkB w1 w.heap.size n (inM f sc 0) by
  rw[hw1,HNZ.out]
  have e:inM f sc 0=fun _=>false:=by funext j;unfold inM;simp
  rw[e]
  exact MkB.new w n)
 have HW1:=hdq hw1
 have HB1:=hdq hb1
 obtain⟨ny,cy,rfl⟩:∃p c,y= .slice p n c:=by
  rcases hf'.2 with⟨rfl,h⟩|⟨g,cap,cur,rfl,_⟩
  ·exact⟨none,0,by rw[h]⟩
  ·exact⟨_,cap,rfl⟩
 have hcell:∀(W:World),Below w.heap.size w W→∀(j:Nat),j < n→∃(g nj:Nat),ny=some ⟨g,0,none⟩∧g < W.heap.size∧W.cell? ⟨g,j,none⟩=some (.int .i64 (nj:Int))∧nj < n∧f[j]?=some (nj:Int)∧n≤cy:=fun W hW j hj=>by
  obtain⟨g,cap,e,_,hgl,_,hcap,_⟩:=rowZ_open HFO.out (by omega)
  simp only[Value.slice.injEq,true_and]at e
  obtain⟨rfl,rfl⟩:=e
  obtain⟨nj,h1,h2⟩:=isl_nat HFN.out (i:=j) (by rw[←HN.out];exact hj)
  refine⟨g,nj,rfl,ltq hgl hW.size,?_,h2,h1,hcap⟩
  exact(Same.of hW (lrq _) ⟨g,j,none⟩ hgl).trans (rowZ_cell HFO.out j _ h1)
 have HCELL:=hdq hcell
 clear hf hf' hfn hsn hn hns hw1 hb1 hcell
 go_enter Try.func45,Try.ntmps45
 go_wp2_with fail
 rw[←HW1.out]
 go_loopw [8] (fun i wr=>∃k:Nat,k≤ns∧i= .int .i64 k∧Hid (MkB wr w.heap.size n (inM f sc k)∧Below w.heap.size w wr)) (fun i _=>ns - (intOf i).toNat)
 case atStart=>exact⟨0,Nat.zero_le _,rfl,HM0.out,HB1.out⟩
 case round=>
  obtain⟨k,hk,rfl,hI⟩:=hrel
  obtain⟨hM,hb⟩:=hI.out
  by_cases hlt:k < ns
  ·obtain⟨nx,hx,hxn⟩:=isl_nat HSN.out (i:=k) (by rw[←HNS.out];exact hlt)
   obtain⟨bs,os,rfl,hats⟩:=HS.out.2.2 (by rw[←HNS.out];omega)
   have s0:=((hats.keep (Same.of hb (lrq _))).2 k _ hx).1
   have sl:bs < wr.heap.size:=ltq hats.1 hb.size
   obtain⟨gf,nj,rfl,gfl,g0,hnj,hfx,hcy⟩:=HCELL.out wr hb nx hxn
   have m0:=hM.cell hnj
   have m1:=Bk.frozen hM nj
   have ml:=Bk.lt hM
   have hM2:=hM.set_ hnj
   rw[←inM_succ hx hfx]at hM2
   have HI2:=hdq (show MkB (wr.setCell ⟨w.heap.size,nj,none⟩ (.bool true)) w.heap.size n (inM f sc (k+1))∧Below w.heap.size w (wr.setCell ⟨w.heap.size,nj,none⟩ (.bool true))from⟨hM2,hb.setCell (p:=⟨w.heap.size,nj,none⟩) (lrq _) _⟩)
   have hnx2:(nx:Int) < (n:Int):=by omega
   have hnj2:(nj:Int) < (n:Int):=by omega
   clear hats hM hb hM2 hI hx hfx
   go_wp2_with fail
   go_roundw
   case rel=>exact⟨k+1,by omega,by go_num,HI2⟩
   case measure=>simp[intOf];omega
  ·obtain rfl:k=ns:=by omega
   have hM':MkB wr w.heap.size n (inM f sc sc.length):=by rw[←HNS.out];exact hM
   have HM:=hdq hM'
   have HB:=hdq hb
   clear hM' hM hb hI
   go_wp2_with fail
   go_loop [9,10,11] (fun many least i=>∃k:Nat,k≤n∧i= .int .i64 k∧many= .int .i64 ((unK f sc k).length :Nat)∧least= .int .i64 (lstK f sc k)) (fun _ _ i=>n - (intOf i).toNat)
   case atStart=>exact⟨0,Nat.zero_le _,rfl,rfl,rfl⟩
   case round=>
    obtain⟨q,hq,rfl,rfl,rfl⟩:=hrel
    have hul:(unK f sc q).length ≤q:=by unfold unK;have:=List.length_filter_le (fun i=>decide (f.getD i 0∈sc.map fun n=>f.getD n.toNat 0)) (List.range q);simpa using this
    by_cases hlt2:q < n
    ·obtain⟨gf,nj,rfl,gfl,g0,hnj,hfx,hcy⟩:=HCELL.out wr HB.out q hlt2
     have m0:=HM.out.cell hnj
     have ml:=Bk.lt HM.out
     have hnj2:(nj:Int) < (n:Int):=by omega
     cases hmk2:inM f sc sc.length nj
     ·obtain⟨e1,e2⟩:=lst_no (sc:=sc) hfx hmk2
      rw[hmk2]at m0
      rw[←e1,←e2]
      clear e1 e2 hmk2 hfx
      go_wp2_with fail
      go_round
      case rel=>exact⟨q+1,by omega,by go_num,rfl,rfl⟩
      case measure=>simp[intOf];omega
     ·obtain⟨e1,e2⟩:=lst_yes (sc:=sc) hfx hmk2
      rw[hmk2]at m0
      clear hmk2 hfx
      obtain⟨u,hu⟩:=nmq ((unK f sc q).length )
      rw[←hu]at e1 hul ⊢
      obtain⟨ls,hls⟩:=nmq (lstK f sc q)
      rw[←hls]at e2 ⊢
      have E1:=hdq e1
      clear e1 hu hls
      rcases e2 with⟨rfl,e2⟩|⟨h9,e2⟩
      ·have E2:=hdq e2
       clear e2
       go_wp2_with fail
       go_round
       case rel=>exact⟨q+1,by omega,by go_num,by rw[E1.out],by rw[E2.out]⟩
       case measure=>simp[intOf];omega
      ·have E2:=hdq e2
       have h10:¬ls < 0:=by omega
       clear e2
       go_wp2_with fail
       go_round
       case rel=>exact⟨q+1,by omega,by go_num,by rw[E1.out],by rw[E2.out]⟩
       case measure=>simp[intOf];omega
    ·obtain rfl:q=n:=by omega
     have eU:unK f sc q=unL f sc:=by rw[HN.out,unK_all]
     have eL:lstK f sc q=lstK f sc f.length:=by rw[HN.out]
     rw[eU]at hul ⊢
     rw[eL]
     obtain⟨ls,hls⟩:=nmq (lstK f sc f.length)
     rw[←hls]
     obtain⟨nu,hnu⟩:=nmq ((unL f sc).length )
     rw[←hnu]at hul ⊢
     have HLS:=hdq hls
     have HNU:=hdq hnu
     clear eU eL hls hnu
     by_cases hmo:most < (nu:Int)
     ·have HO:=hdq (show RowN wr L (oneL f sc most) (.slice ny q cy) by
       have e:oneL f sc most=f:=by unfold oneL;rw[←HNU.out,if_pos hmo]
       rw[e]
       exact own_keep HF.out HB.out)
      go_wp2_with fail
      go_ret
      exact⟨_,rfl,HO.out,HB.out⟩
     have HPA:=hdq (show putK f sc f.length=oneL f sc most from putK_all (by rw[←HNU.out];exact hmo))
     have hff:wr.ownsRow L 3 1 (.slice ny q cy) q (intZ f):=own_keep HFO.out HB.out
     have HFF:=hdq hff
     have hbs:=HB.out.size
     clear hff
     -- the copy
     have fin:∀(y2:Value) (w2:World),w2.ownsRow w.heap.size 3 1 y2 q (intZ f)→wr.grownBy w2 none→(∀b,y2.ownBlock=some b→b≠w.heap.size)→
       (RowN w2 w.heap.size (putK f sc 0) y2∧MkB w2 w.heap.size q (inM f sc sc.length)∧Below w.heap.size w w2)∧(∀b,y2.ownBlock=some b→b≠w.heap.size):=fun y2 w2 ho hg hne=>by
      refine⟨⟨?_,?_,HB.out.grown hg hbs fun g e=>by cases e⟩,hne⟩
      ·unfold RowN
       rw[putK_zero,←HN.out]
       exact ho
      ·exact(hg.block _ (Bk.lt HM.out) (by simp)).trans HM.out
     have FIN:=hdq fin
     clear fin
     rcases HFO.out.2 with⟨he,h00⟩|⟨gy,cap,cur,he,_,hgy,hcap1,hcap2,_⟩
     ·simp only[Value.slice.injEq]at he
      obtain⟨rfl,h00,rfl⟩:=he
      obtain⟨HST0,HNE0⟩:=FIN.out (.slice none 0 0) wr (by have h:=HFF.out.1;rw[h00]at h ⊢;exact⟨h,.inl ⟨rfl,rfl⟩⟩) ⟨rfl,rfl,rfl,lrq _,fun _ _ _=>rfl⟩ (fun b e=>by simp[Value.ownBlock]at e)
      have HST:=hdq HST0
      have HNE:=hdq HNE0
      clear HST0 HNE0
      subst h00
      go_wp2_with (at_builtin;refine wpList_append_own_none rfl _ _ 22 rfl w.heap.size 3 i0 1 Try.underlying22 HI.out.1 (.slice none 0 0) 0 [] rfl (World.ownsRow_nil _ _ _ _) rfl ?_)
      have HO:=hdq (show RowN wr L (oneL f sc most) (.slice none 0 0) by
       have h:=HST.out.1.low hL
       rw[←HPA.out,←HN.out]
       exact h)
      have HB3:=hdq HST.out.2.2
      go_wp2_with fail
      go_loop [13] (fun i=>i= .int .i64 0) (fun _=>0)
      case atStart=>rfl
      case round=>
       subst hrel
       go_wp2_with fail
       go_ret
       exact⟨_,rfl,HO.out,HB3.out⟩
     ·simp only[Value.slice.injEq,true_and]at he
      obtain⟨rfl,rfl⟩:=he
      go_wp2_with (at_builtin;refine wpList_append_own_at _ rfl _ _ 22 rfl w.heap.size 3 i0 (.int .i64 0) 1 8 Try.underlying22 HI.out.1 HI.out.2.1 HI.out.2.2.1 HI.out.2.2.2 rfl (by decide) (.slice none 0 0) 0 [] rfl (World.ownsRow_nil _ _ _ _) ⟨gy,0,none⟩ q cy (intZ f) rfl ?c0 ?c1 ?c2 ?c3 ?c4 ?c5 ?_)
      case c0=>simp[intZ,HN.out]
      case c1=>
       intro j u hj
       have hjl:j < q:=by
        have h:=(List.getElem?_eq_some_iff.1 hj).1
        simp only[intZ,List.length_map]at h
        rw[HN.out];exact h
       rw[HFF.out.cellAt j (by omega)]
       exact hj
      case c2=>
       intro u hu
       unfold intZ at hu
       obtain⟨z,_,rfl⟩:=List.mem_map.1 hu
       rfl
      case c3=>unfold maxLen;omega
      case c4=>omega
      intro y2 w2 ho2 hg2 _ hn2
      have hn3:∀b,y2.ownBlock=some b→b≠w.heap.size:=fun b e=>by
       rcases hn2 with h|h
       ·rw[h]at e;simp[Value.ownBlock]at e
       ·rw[h]at e
        injection e with e
        have:=Bk.lt HM.out
        omega
      obtain⟨HST0,HNE0⟩:=FIN.out y2 w2 (by simpa using ho2) hg2 hn3
      have HST:=hdq HST0
      have HNE:=hdq HNE0
      clear HST0 HNE0 ho2 hg2 hn2 hn3
      go_wp2_with fail
      go_loopw [13] (fun i wr=>∃k:Nat,k≤q∧i= .int .i64 k∧Hid (RowN wr w.heap.size (putK f sc k) y2∧MkB wr w.heap.size q (inM f sc sc.length)∧Below w.heap.size w wr)) (fun i _=>q - (intOf i).toNat)
      case atStart=>exact⟨0,Nat.zero_le _,rfl,HST⟩
      case round=>
       obtain⟨k3,hk3,rfl,hI3⟩:=hrel
       obtain⟨hR3,hM3,hB3⟩:=hI3.out
       by_cases hlt3:k3 < q
       ·obtain⟨gf,nj,hfe,gfl,g0,hnj,hfx,hcy⟩:=HCELL.out wr hB3 k3 hlt3
        cases hfe
        have m0:=hM3.cell hnj
        have ml:=Bk.lt hM3
        have hnj2:(nj:Int) < (q:Int):=by omega
        have HB3:=hdq hB3
        have HM3:=hdq hM3
        cases hmk3:inM f sc sc.length nj
        ·have HR3:=hdq (show RowN wr w.heap.size (putK f sc (k3+1)) y2 by rw[putK_no hfx hmk3];exact hR3)
         rw[hmk3]at m0
         clear hmk3 hfx hI3 hR3 hM3 hB3
         go_wp2_with fail
         go_roundw
         case rel=>exact⟨k3+1,by omega,by go_num,HR3.out,HM3.out,HB3.out⟩
         case measure=>simp[intOf];omega
        ·obtain⟨g2,cap2,rfl,hg2b,hg2l,_,hcap2,_⟩:=rowZ_open (n:=(putK f sc k3).length) hR3 (by rw[putK_len,←HN.out];omega)
         have hpl:(putK f sc k3).length =q:=by rw[putK_len,←HN.out]
         unfold RowN at hR3
         rw[hpl]at hR3 hcap2 ⊢
         have r0:=hR3.cellAt k3 (by omega)
         have r1:=hR3.frozenAt k3
         obtain⟨old,hold⟩:∃v,(putK f sc k3)[k3]?=some v:=⟨_,List.getElem?_eq_getElem (by rw[hpl];exact hlt3)⟩
         rw[intZ,List.getElem?_map,hold,Option.map_some]at r0
         have hst3:=hR3.stored k3 (.int .i64 ls)
         have hne3:g2≠w.heap.size:=HNE.out g2 rfl
         have HR3:=hdq (show RowN (wr.setCell ⟨g2,k3,none⟩ (.int .i64 ls)) w.heap.size (putK f sc (k3+1)) (.slice (some ⟨g2,0,none⟩) q cap2) by
          unfold RowN
          rw[putK_yes hfx hmk3,List.length_set,hpl,←HLS.out]
          have e:intZ ((putK f sc k3).set k3 ls)=(intZ (putK f sc k3)).set k3 (.int .i64 ls):=by unfold intZ;rw[List.map_set]
          rw[e]
          exact hst3.1)
         have HM4:=hdq (show MkB (wr.setCell ⟨g2,k3,none⟩ (.int .i64 ls)) w.heap.size q (inM f sc sc.length)from Bk.far HM3.out (p:=⟨g2,k3,none⟩) (fun e=>hne3 e.symm) _)
         have HB4:=hdq (show Below w.heap.size w (wr.setCell ⟨g2,k3,none⟩ (.int .i64 ls))from HB3.out.setCell (p:=⟨g2,k3,none⟩) hg2b _)
         rw[hmk3]at m0
         clear hmk3 hfx hI3 hR3 hM3 hB3 hst3 hold hpl
         go_wp2_with fail
         go_roundw
         case rel=>exact⟨k3+1,by omega,by go_num,HR3.out,HM4.out,HB4.out⟩
         case measure=>simp[intOf];omega
       ·obtain rfl:k3=q:=by omega
        have HO:=hdq (show RowN wr L (oneL f sc most) y2 by
         have h:=hR3.low hL
         rw[HN.out,HPA.out]at h
         exact h)
        have HB3:=hdq hB3
        clear hI3 hR3 hM3 hB3
        go_wp2_with fail
        go_ret
        exact⟨_,rfl,HO.out,HB3.out⟩
end Go.Proofs.Ytphlnpaikpjakaa
