/-
  sem.has: what an expression has; a fault is thrown.
-/
import Derived.Test.YtobegfbdedgmpaaGreatDoorJgSv
import Derived.Test.YtobegfbdedgmpaaGreatDoorJnCk3
import Derived.Test.YtobegfbdedgmpaaGreatDoorJnOpC
import Derived.Outline
import Derived.Test.YtobegfbdedgmpaaGreatDoorJnData
set_option linter.unusedVariables false
set_option linter.unusedSimpArgs false
namespace Go.Proofs.YtobegfbdedgmpaaGreatDoor
open Go.RowKit Go.Shelf

def SvBk (w:World) (g:Nat) (t:TypeId) (cs:Array Value):Prop:=w.heap[g]?=some (.cells cs t (0,0))
theorem SvBk.cell {w:World} {g:Nat} {t:TypeId} {cs:Array Value} (h:SvBk w g t cs) (i:Nat):w.cell? ⟨g,i,none⟩=cs[i]?:=cell_of_row w g i cs t (0,0) h
theorem SvBk.frozen {w:World} {g:Nat} {t:TypeId} {cs:Array Value} (h:SvBk w g t cs) (i:Nat):w.frozen? ⟨g,i,none⟩=false:=by
 unfold SvBk at h
 simp[World.frozen?,h]
theorem SvBk.new (w:World) (t:TypeId) (cs:Array Value):SvBk (w.alloc (.cells cs t)) w.heap.size t cs:=heap_alloc_new w _
theorem SvBk.lt {w:World} {g:Nat} {t:TypeId} {cs:Array Value} (h:SvBk w g t cs):g < w.heap.size:=by
 rcases Nat.lt_or_ge g w.heap.size with hlt|hge
 ·exact hlt
 ·unfold SvBk at h;rw[Array.getElem?_eq_none hge]at h;cases h
theorem SvBk.set_ {w:World} {g:Nat} {t:TypeId} {cs:Array Value} (h:SvBk w g t cs) (i:Nat) (u:Value):SvBk (w.setCell ⟨g,i,none⟩ u) g t (cs.setIfInBounds i u):=by
 unfold SvBk at h ⊢
 simp[World.setCell,Array.getElem?_modify,h]
theorem SvBk.below {w w':World} {B g:Nat} {t:TypeId} {cs:Array Value} (h:SvBk w g t cs) (hb:Below B w w') (hg:g < B):SvBk w' g t cs:=(hb.block g hg).trans h
theorem SvBk.alloc {w:World} {g:Nat} {t:TypeId} {cs:Array Value} (h:SvBk w g t cs) (o:Obj):SvBk (w.alloc o) g t cs:=(Below.heap_alloc w o g h.lt).trans h

theorem zkk (w:World) (c0 c1 c2:Array Value) (t0 t1 t2:TypeId) (i:Nat):
  (((w.alloc (.cells c0 t0)).alloc (.cells c1 t1)).alloc (.cells c2 t2)).cell? ⟨w.heap.size,i,none⟩=c0[i]?∧
  (((w.alloc (.cells c0 t0)).alloc (.cells c1 t1)).alloc (.cells c2 t2)).cell? ⟨w.heap.size+1,i,none⟩=c1[i]?∧
  (((w.alloc (.cells c0 t0)).alloc (.cells c1 t1)).alloc (.cells c2 t2)).cell? ⟨w.heap.size+1+1,i,none⟩=c2[i]?∧
  SvBk (((w.alloc (.cells c0 t0)).alloc (.cells c1 t1)).alloc (.cells c2 t2)) (w.heap.size+1+1) t2 c2:=by
 have h1:=ziH w c0 c1 t0 t1 i
 have h2:SvBk (((w.alloc (.cells c0 t0)).alloc (.cells c1 t1)).alloc (.cells c2 t2)) (w.heap.size+1+1) t2 c2:=by
  have:=SvBk.new ((w.alloc (.cells c0 t0)).alloc (.cells c1 t1)) t2 c2
  simpa using this
 exact⟨(World.cell?_alloc_lt _ _ _ (by simp;omega)).trans h1.1,(World.cell?_alloc_lt _ _ _ (by simp)).trans h1.2,h2.cell i,h2⟩
def two (vs:List Int) (k:Nat):Array Value:= #[.int .i64 (if 0 < k then vs.getD 0 0 else 0),.int .i64 (if 1 < k then vs.getD 1 0 else 0)]

theorem zlR {v a k n:Int} {l:Nat} (h:mayK v a k n l=true):l≤2:=by
 simp only[mayK,Bool.and_eq_true,beq_iff_eq]at h
 have:=h.2
 unfold argc at this
 repeat(split at this)
 all_goals omega
theorem zoP {v a n:Int} {l:Nat} (h:mayK v a 2 n l=true):0≤n∧n < v:=by
 simp[mayK,za5,argc]at h;omega
theorem zoQ {v a n:Int} {l:Nat} (h:mayK v a 3 n l=true):0≤n∧n < a:=by
 simp[mayK,za5,argc]at h;omega
theorem zoR {v a k n:Int} {l:Nat} (h:mayK v a k n l=true):1≤k∧k≤11:=by
 simp[mayK]at h;omega
def zgI (vs:List Int) (ls:List (List Int)) (Av Aa:Option Addr) (cv ca B:Nat) (xs:Exs):Prop:=
 ∀(i:Nat) (k:Int) (nm:ByteArray) (n:Int) (args:Exs) (at_:Int) (rest:Exs),Exs.drop i xs= .cons k nm n args at_ rest→
  ∀(W:World) (A:Option Addr) (c:Nat),B≤W.heap.size→StSl W B vs ls Av cv Aa ca→ExSl W B args A c→
   Calls Tryz.prog 161 #[stV Av vs.length cv Aa ls.length ca,exV k nm n A args.len c at_] W (zay 246 (zar vs ls k n (zag vs ls args)) (zao vs ls k n args at_) W)

theorem zlS (vs:List Int) (k j:Nat) (hj:j < 2):∃u,(two vs k)[j]?=some u:=by
 have:j=0∨j=1:=by omega
 rcases this with rfl|rfl<;>exact⟨_,rfl⟩
theorem zny {vs:List Int} {j:Nat} {v:Int} (hj:j < 2) (h:vs[j]?=some v):(two vs j).setIfInBounds j (.int .i64 v)=two vs (j+1):=by
 have:j=0∨j=1:=by omega
 rcases this with rfl|rfl
 ·simp[two,h]
 ·simp[two,h]
theorem zlT {vs:List Int} {k:Nat} (h:vs.length≤k):two vs k= #[.int .i64 (vs.getD 0 0),.int .i64 (vs.getD 1 0)]:=by
 unfold two
 match vs,h with
 | [],_=>simp
 | [a],h=>simp at h;simp;omega
 |a::b::r,h=>simp at h;rw[if_pos (by omega),if_pos (by omega)]
structure HasFr (vs:List Int) (S F:Nat) (W3 wr:World) (j:Nat):Prop where
 below:Below (S+2) W3 wr
 arr:SvBk wr (S+1+1) F (two vs j)
 size:S+2 < wr.heap.size

set_option maxHeartbeats 3200000 in
theorem znz (vs:List Int) (ls:List (List Int)) (Av Aa:Option Addr) (cv ca B:Nat) (k:Int) (nm:ByteArray) (n:Int) (args:Exs) (at_:Int) (A:Option Addr) (c:Nat) (w:World)
  (hB:B≤w.heap.size) (hst:StSl w B vs ls Av cv Aa ca) (hx:ExSl w B args A c) (hask:zgI vs ls Av Aa cv ca B args)
  (hk:mayK vs.length ls.length k n args.len=true) (h64:St64 vs ls) (hn64:Ns64 args):
  Calls Tryz.prog 161 #[stV Av vs.length cv Aa ls.length ca,exV k nm n A args.len c at_] w (zay 246 (zar vs ls k n (zag vs ls args)) (zao vs ls k n args at_) w):=by
 have HA:=hdq hask
 have hl:args.len≤2:=zlR hk
 have HK:=hdq hk
 clear hask hk
 obtain⟨nv,hnv⟩:=nmq vs.length
 obtain⟨na,hna⟩:=nmq ls.length
 obtain⟨l,hll⟩:=nmq args.len
 rw[←hnv,←hna,←hll]
 rw[←hll]at hl
 have HNV:=hdq hnv
 have HNA:=hdq hna
 have HL:=hdq hll
 clear hnv hna hll
 unfold stV exV
 have hbb:∀c0 c1 c2:Array Value,Below w.heap.size w (((w.alloc (.cells c0 57)).alloc (.cells c1 195)).alloc (.cells c2 293)):=fun _ _ _=>(((Below.refl _ _).alloc (Nat.le_refl _) _).alloc (by simp) _).alloc (by simp;omega) _
 have HBB:=hdq hbb
 clear hbb
 go_enter Tryz.func161,Tryz.ntmps161
 go_wp2
 obtain⟨W3,hW3⟩:=nmq ((((w.alloc (.cells #[.slice Av nv cv,.slice Aa na ca] 57)).alloc (.cells #[.int .u8 k,.string nm,.int .i64 n,.slice A l c,.int .i64 at_] 195)).alloc (.cells #[.int .i64 0,.int .i64 0] 293)))
 have hb3:Below w.heap.size w W3:=by rw[hW3];exact HBB.out _ _ _
 have hfr:HasFr (zag vs ls args) w.heap.size 293 W3 W3 0:=⟨Below.refl _ _,by rw[hW3];exact(zkk w _ _ _ _ _ _ 0).2.2.2,by rw[hW3];simp⟩
 have hs0:∀i,W3.cell? ⟨w.heap.size,i,none⟩= #[Value.slice Av nv cv,.slice Aa na ca][i]?:=fun i=>by rw[hW3];exact(zkk w _ _ _ _ _ _ i).1
 have hs1:∀i,W3.cell? ⟨w.heap.size+1,i,none⟩= #[.int .u8 k,.string nm,.int .i64 n,Value.slice A l c,.int .i64 at_][i]?:=fun i=>by rw[hW3];exact(zkk w _ _ _ _ _ _ i).2.1
 rw[←hW3]
 have HS0:=hdq hs0
 have HS1:=hdq hs1
 clear hW3 hs0 hs1
 go_loopw [15] (fun i wr=>∃j:Nat,j≤l∧i= .int .i64 j∧HasFr (zag vs ls args) w.heap.size 293 W3 wr j∧Hid (fltX vs ls args=fltX vs ls (Exs.drop j args))) (fun i _=>l - (intOf i).toNat)
 case atStart=>exact⟨0,Nat.zero_le _,rfl,hfr,by show _=_;simp[Exs.drop]⟩
 case round=>
  obtain⟨j,hj,rfl,hf,hflt⟩:=hrel
  have hz:=hf.size
  have hz0:w.heap.size < wr.heap.size:=by omega
  have hz1:w.heap.size+1 < wr.heap.size:=by omega
  have hz2:w.heap.size+1+1 < wr.heap.size:=by omega
  have hbw:Below w.heap.size w wr:=hb3.trans (hf.below.mono (by omega))
  have s0:=(hf.below.cell (p:=⟨w.heap.size,0,none⟩) (by simp)).trans (HS0.out 0)
  have s1:=(hf.below.cell (p:=⟨w.heap.size,1,none⟩) (by simp)).trans (HS0.out 1)
  have e0:=(hf.below.cell (p:=⟨w.heap.size+1,0,none⟩) (by simp)).trans (HS1.out 0)
  have e2:=(hf.below.cell (p:=⟨w.heap.size+1,2,none⟩) (by simp)).trans (HS1.out 2)
  have e3:=(hf.below.cell (p:=⟨w.heap.size+1,3,none⟩) (by simp)).trans (HS1.out 3)
  have e4:=(hf.below.cell (p:=⟨w.heap.size+1,4,none⟩) (by simp)).trans (HS1.out 4)
  simp only[List.getElem?_toArray,List.getElem?_cons_succ,List.getElem?_cons_zero]at s0 s1 e0 e2 e3 e4
  by_cases hlt:j < l
  ·obtain⟨a0,a1,a2,a3,a4,a5,hd⟩:=Exs.drop_cons (k:=j) (xs:=args) (by rw[←HL.out];exact hlt)
   obtain⟨b,o,rfl,hat⟩:=hx.2.2 (by rw[←HL.out];omega)
   obtain⟨hbB,c0,c1,c2,⟨A',c',c3,hsl⟩,c4,r0,r1,r2⟩:=(hat.keep (Same.of hbw hB)).at_ hd
   have hcall:∀W,Below wr.heap.size wr W→Calls Tryz.prog 161 #[.agg #[.slice Av nv cv,.slice Aa na ca],.agg #[.int .u8 a0,.string a1,.int .i64 a2,.slice A' a3.len c',.int .i64 a4]] W (zay 246 (zar vs ls a0 a2 (zag vs ls a3)) (zao vs ls a0 a2 a3 a4) W):=fun W hW=>by
    have hbW:=hbw.trans (hW.mono hbw.size)
    rw[HNV.out,HNA.out]
    exact HA.out j a0 a1 a2 a3 a4 a5 hd W A' c' (Nat.le_trans hB hbW.size) (hst.keep (Same.of hbW hB)) (hsl.keep (Same.of hW (Nat.le_trans hB hbw.size)))
   have HC:=hdq hcall
   have HV:=hdq (zlL vs ls hd)
   have hj2:j < 2:=by omega
   have HD:=hdq hd
   clear hcall hd hsl hst hx hbw
   by_cases hf0:(zao vs ls a0 a2 a3 a4).1 =0
   ·have HC2:=hdq (fun(W:World) (h:Below wr.heap.size wr W)=>(HC.out W h).mono fun e w' (h:zay _ _ _ _ _ _)=>show e= .returned (.int .i64 (zar vs ls a0 a2 (zag vs ls a3)))∧Below W.heap.size W w' from by unfold zay at h;rw[if_pos hf0]at h;exact h)
    have HF0:=hdq (zj8 vs ls HD.out hflt.out hf0)
    have HS:=hdq (zny hj2 HV.out)
    obtain⟨v,hv⟩:=nmq (zar vs ls a0 a2 (zag vs ls a3))
    rw[←hv]at HC2 HS
    obtain⟨u,hu⟩:=zlS (zag vs ls args) j j hj2
    have HU:=hdq hu
    clear hv hf0 HC hu hflt
    go_wp2_with fail
    refine(HC2.out _ ((Below.refl _ _).alloc (Nat.le_refl _) _)).mono ?_
    rintro e w1 ⟨rfl,hb1⟩
    have harr:SvBk w1 (w.heap.size+1+1) 293 (two (zag vs ls args) j):=(hf.arr.alloc _).below hb1 (by simp;omega)
    have u0:=(harr.cell j).trans HU.out
    have u1:=harr.frozen j
    have hz3:=hb1.size
    have hbn:Below (w.heap.size+2) W3 w1:=hf.below.trans (((Below.refl _ _).alloc (by omega) _).trans (hb1.mono (by simp;omega)))
    clear hb1 c0 c1 c2 c3 c4 s0 s1 e0 e2 e3 e4
    go_wp2_with fail
    go_roundw
    case rel=>exact⟨j+1,by omega,by go_num,⟨hbn.setCell (by simp) _,by have:=harr.set_ j (.int .i64 v);rw[HS.out]at this;exact this,by simp at hz3 ⊢;omega⟩,HF0⟩
    case measure=>simp[intOf];omega
   ·have HC2:=hdq (fun(W:World) (h:Below wr.heap.size wr W)=>(HC.out W h).mono fun e w' (h:zay _ _ _ _ _ _)=>show e=fault 246 (zao vs ls a0 a2 a3 a4)∧Below W.heap.size W w' from by unfold zay at h;rw[if_neg hf0]at h;exact h)
    have HF0:=hdq (zj9 vs ls HD.out hflt.out hf0)
    go_wp2_with fail
    refine(HC2.out _ ((Below.refl _ _).alloc (Nat.le_refl _) _)).mono ?_
    rintro e w1 ⟨rfl,hb1⟩
    go_wp2_with fail
    exact⟨rfl,zcU (F:=246) (by rw[zfQ HF0.out hf0];exact hf0) (by rw[zfQ HF0.out hf0]) ((hb3.trans (hf.below.mono (by omega))).trans (((Below.refl _ _).alloc (by omega) _).trans (hb1.mono (by simp;omega))))⟩
  ·obtain rfl:j=l:=by omega
   have hfin:(fltX vs ls args).1 =0:=by rw[hflt.out,Exs.drop_nil (by rw[←HL.out];exact Nat.le_refl _)];rfl
   have hlen:(zag vs ls args).length ≤j:=by rw[zfR,HL.out];exact Nat.le_refl _
   have hone:zao vs ls k n args at_=if zas ls k n (zag vs ls args)=0 then(0,0)else(zas ls k n (zag vs ls args),at_):=by rw[zao,if_pos hfin]
   have harr:=hf.arr
   rw[zlT hlen]at harr
   have t0:=harr.cell 0
   have t1:=harr.cell 1
   simp only[List.getElem?_toArray,List.getElem?_cons_succ,List.getElem?_cons_zero]at t0 t1
   have h0:=zbn (zbe h64 hn64) 0
   have h1:=zbn (zbe h64 hn64) 1
   obtain⟨x0,hx0⟩:=nmq ((zag vs ls args).getD 0 0)
   obtain⟨x1,hx1⟩:=nmq ((zag vs ls args).getD 1 0)
   rw[←hx0]at t0 h0
   rw[←hx1]at t1 h1
   have HX0:=hdq hx0
   have HX1:=hdq hx1
   have HONE:=hdq hone
   have HBW:=hdq hbw
   have hst2:=hst.keep (Same.of hbw hB)
   clear hx0 hx1 hone hbw hfin hlen harr hflt hst hx hfr
   by_cases k1:k=1
   ·subst k1
    have hw:zas ls 1 n (zag vs ls args)=0:=by simp[zas]
    have hP:zay 246 (zar vs ls 1 n (zag vs ls args)) (zao vs ls 1 n args at_) w (.returned (.int .i64 n)) wr:=zb9 (by rw[HONE.out,if_pos hw]) (by simp[zar]) HBW.out
    have HP:=hdq hP
    clear hw hP h0 h1 hst2
    go_wp2_with fail
    go_ret
    exact HP.out
   have b1:(k==1)=false:=by simpa using k1
   by_cases k2:k=2
   ·subst k2
    have hm:=zoP HK.out
    obtain⟨m,rfl⟩:=Int.eq_ofNat_of_zero_le hm.1
    have hm1:m < vs.length:=by omega
    obtain⟨b2,o2,rfl,hia⟩:=hst2.vars.2.2 (by omega)
    have cv0:=(hia.2 m _ (List.getElem?_eq_getElem hm1)).1
    have hw:zas ls 2 m (zag vs ls args)=0:=by simp[zas]
    have hP:zay 246 (zar vs ls 2 m (zag vs ls args)) (zao vs ls 2 m args at_) w (.returned (.int .i64 vs[m])) wr:=zb9 (by rw[HONE.out,if_pos hw]) (by simp[zar,hm1]) HBW.out
    have HP:=hdq hP
    obtain⟨y,hy⟩:=nmq (vs[m])
    rw[←hy]at HP cv0
    have hmv:m < nv:=by rw[HNV.out];exact hm1
    clear hw hP h0 h1 hst2 hia hy hm hm1
    go_wp2_with fail
    go_ret
    exact HP.out
   have b2:(k==2)=false:=by simpa using k2
   by_cases k3:k=3
   ·subst k3
    have hm:=zoQ HK.out
    obtain⟨m,rfl⟩:=Int.eq_ofNat_of_zero_le hm.1
    have hm1:m < ls.length:=by omega
    obtain⟨b2,o2,rfl,hia⟩:=hst2.arrs.2.2 (by omega)
    obtain⟨A3,c3,cv0,hs3⟩:=hia.2 m _ (List.getElem?_eq_getElem hm1)
    have hma:m < na:=by rw[HNA.out];exact hm1
    have hgl:ls.getD (m:Int).toNat []=ls[m]:=by simp[hm1]
    obtain⟨l3,hl3⟩:=nmq (ls[m].length )
    rw[←hl3]at cv0
    have hlm:l3≤9223372036854775807:=by rw[hl3];exact Nat.le_trans hs3.1 hs3.2.1
    by_cases hin:0≤x0∧x0 < l3
    ·obtain⟨m0,rfl⟩:=Int.eq_ofNat_of_zero_le hin.1
     have hm0:m0 < ls[m].length :=by omega
     obtain⟨b4,o4,rfl,hib⟩:=hs3.2.2 (by omega)
     have cv1:=(hib.2 m0 _ (List.getElem?_eq_getElem hm0)).1
     have hw:zas ls 3 m (zag vs ls args)=0:=by simp only[zas];rw[←HX0.out,hgl];simp;omega
     have hP:zay 246 (zar vs ls 3 m (zag vs ls args)) (zao vs ls 3 m args at_) w (.returned (.int .i64 ls[m][m0])) wr:=zb9 (by rw[HONE.out,if_pos hw]) (by simp only[zar];rw[←HX0.out,hgl];simp[hm0]) HBW.out
     have HP:=hdq hP
     obtain⟨y,hy⟩:=nmq (ls[m][m0])
     rw[←hy]at HP cv1
     have hm2:m0 < l3:=by omega
     clear hw hP h0 h1 hst2 hia hib hs3 hy hm hm1 hm0 hin hl3 hgl
     go_wp2_with fail
     go_ret
     exact HP.out
    ·have hw:zas ls 3 m (zag vs ls args)=5:=by simp only[zas];rw[←HX0.out,hgl,←hl3];simp;omega
     have hP:zay 246 (zar vs ls 3 m (zag vs ls args)) (zao vs ls 3 m args at_) w (fault 246 (5,at_)) wr:=zcU (by rw[HONE.out,if_neg (by rw[hw];decide),hw];simp) (by rw[HONE.out,if_neg (by rw[hw];decide),hw]) HBW.out
     have HP:=hdq hP
     by_cases hneg:x0 < 0
     ·clear hw hP h0 h1 hst2 hia hs3 hm hm1 hin hl3 hgl
      go_wp2_with fail
      exact⟨rfl,HP.out⟩
     ·have hge:(l3:Int)≤x0:=by omega
      clear hw hP h0 h1 hst2 hia hs3 hm hm1 hin hl3 hgl
      go_wp2_with fail
      exact⟨rfl,HP.out⟩
   have b3:(k==3)=false:=by simpa using k3
   have hkk:=zoR HK.out
   have k4:4≤k:=by omega
   have hv:zar vs ls k n (zag vs ls args)=opR k x0 x1:=by rw[zar,if_neg k1,if_neg k2,if_neg k3,HX0.out,HX1.out]
   have hw:zas ls k n (zag vs ls args)=opW k x0 x1:=by rw[zas,if_neg k1,if_neg k2,if_neg k3,HX0.out,HX1.out]
   have hcall:∀W,Calls Tryz.prog 27 #[.int .u8 k,.int .i64 x0,.int .i64 x1] W fun e w'=>e= .returned (.tuple #[.int .i64 (opR k x0 x1),.int .u8 (opW k x0 x1),.int .i64 0])∧Below W.heap.size W w':=fun W=>zkj k x0 x1 W k4 hkk.2 h0 h1
   have HC:=hdq hcall
   rw[hw]at HONE
   have HV:=hdq hv
   obtain⟨r,hr⟩:=nmq (opR k x0 x1)
   obtain⟨q,hq⟩:=nmq (opW k x0 x1)
   rw[←hr,←hq]at HC
   rw[←hq]at HONE
   rw[←hr]at HV
   clear hv hw hcall hkk h0 h1 hst2 hr hq k1 k2 k3
   go_wp2_with fail
   refine(HC.out _).mono ?_
   rintro e w1 ⟨rfl,hb1⟩
   have hbn:=HBW.out.trans (hb1.mono HBW.out.size)
   have e4':=(hb1.cell (p:=⟨w.heap.size+1,4,none⟩) (by simp;omega)).trans e4
   by_cases hq0:q=0
   ·have hP:zay 246 (zar vs ls k n (zag vs ls args)) (zao vs ls k n args at_) w (.returned (.int .i64 r)) w1:=zb9 (by rw[HONE.out,if_pos hq0]) (by rw[HV.out]) hbn
    have HP:=hdq hP
    clear hP
    subst hq0
    go_wp2_with fail
    go_ret
    exact HP.out
   ·have hP:zay 246 (zar vs ls k n (zag vs ls args)) (zao vs ls k n args at_) w (fault 246 (q,at_)) w1:=zcU (by rw[HONE.out,if_neg hq0];exact hq0) (by rw[HONE.out,if_neg hq0]) hbn
    have HP:=hdq hP
    have hq1:(q != 0)=true:=by simpa using hq0
    clear hP hq0
    go_wp2_with fail
    exact⟨rfl,HP.out⟩

def intL (l:List Int):List Value:=l.map fun n=>Value.int .i64 n
def slL (b:Nat) (n:Nat):Value:= .slice (some ⟨b,0,none⟩) n n
def rowL:List Nat→List (List Int)→List Value
 |b::bs,l::ls=>slL b l.length::rowL bs ls
 |_,_=> []
theorem zgJ:∀ {bs:List Nat} {ls:List (List Int)} {i b:Nat} {l:List Int},bs[i]?=some b→ls[i]?=some l→(rowL bs ls)[i]?=some (slL b l.length)
 | [],_,_,_,_,h,_=>by simp at h
 |_::_, [],_,_,_,_,h=>by simp at h
 |a::bs,m::ls,0,b,l,h,h'=>by
  simp only[List.getElem?_cons_zero,Option.some.injEq]at h h'
  rw[←h,←h'];rfl
 |a::bs,m::ls,i+1,b,l,h,h'=>by
  simp only[List.getElem?_cons_succ]at h h'
  exact zgJ (bs:=bs) (ls:=ls) h h'
theorem zlU:∀ {bs:List Nat} {ls:List (List Int)},bs.length=ls.length→(rowL bs ls).length =ls.length
 | [], [],_=>rfl
 | [],_::_,h=>by simp at h
 |_::_, [],h=>by simp at h
 |_::bs,_::ls,h=>by
  simp only[rowL,List.length_cons]at h ⊢
  rw[zlU (bs:=bs) (ls:=ls) (by omega)]
theorem zhl:∀ {bs:List Nat} {ls:List (List Int)} {i:Nat} {l l':List Int},ls[i]?=some l→l'.length=l.length→rowL bs (ls.set i l')=rowL bs ls
 | [],_,_,_,_,_,_=>by simp[rowL]
 |_::_, [],_,_,_,h,_=>by simp at h
 |a::bs,m::ls,0,l,l',h,h'=>by
  simp only[List.getElem?_cons_zero,Option.some.injEq]at h
  simp[rowL,h,h']
 |a::bs,m::ls,i+1,l,l',h,h'=>by
  simp only[List.getElem?_cons_succ]at h
  simp only[List.set_cons_succ,rowL]
  rw[zhl h h']
theorem zfS:∀ {bs:List Nat} {ls:List (List Int)} (b:Nat) (l:List Int),bs.length=ls.length→rowL (bs++ [b]) (ls++ [l])=rowL bs ls++ [slL b l.length]
 | [], [],b,l,_=>rfl
 | [],_::_,_,_,h=>by simp at h
 |_::_, [],_,_,h=>by simp at h
 |_::bs,_::ls,b,l,h=>by
  simp only[List.length_cons]at h
  simp only[List.cons_append,rowL]
  rw[zfS b l (by omega)]
structure Sto (w:World) (L:Nat) (vs:List Int) (ls:List (List Int)) (bv:Nat) (A:Option Addr) (c:Nat) (bs:List Nat):Prop where
 v:Bk w bv 3 (intL vs).toArray
 vl:L≤bv
 row:w.ownsRow L 37 1 (.slice A ls.length c) ls.length (rowL bs ls)
 len:bs.length=ls.length
 each:∀(i b:Nat) (l:List Int),bs[i]?=some b→ls[i]?=some l→L≤b∧Bk w b 3 (intL l).toArray
 nd:bs.Nodup
 nv:bv∉bs
 rv:(Value.slice A ls.length c).ownBlock ≠some bv
 rb:∀b∈bs,(Value.slice A ls.length c).ownBlock ≠some b
 i64:St64 vs ls
 few:vs.length≤1000∧ls.length≤1000∧∀l∈ls,l.length≤1000
theorem Sto.fr {w w':World} {L:Nat} {vs:List Int} {ls:List (List Int)} {bv:Nat} {A:Option Addr} {c:Nat} {bs:List Nat} {T:Nat→Prop} (h:Sto w L vs ls bv A c bs) (hf:Fr T w w')
  (hv:¬T bv) (hb:∀b∈bs,¬T b) (hr:∀b,(Value.slice A ls.length c).ownBlock =some b→¬T b):Sto w' L vs ls bv A c bs:=by
 refine⟨h.v.fr hf hv,h.vl,?_,h.len,fun i b l hi hl=>⟨(h.each i b l hi hl).1,(h.each i b l hi hl).2.fr hf (hb b (List.mem_of_getElem? hi))⟩,h.nd,h.nv,h.rv,h.rb,h.i64,h.few⟩
 obtain⟨h1,h2⟩:=h.row
 refine⟨h1,?_⟩
 rcases h2 with h2|⟨g,cap,cur,hv',hg,hh,r⟩
 ·exact .inl h2
 ·refine .inr ⟨g,cap,cur,hv',hg,?_,r⟩
  have hlt:g < w.heap.size:=(Array.getElem?_eq_some_iff.1 hh).1
  rw[hf.block g hlt (hr g (by rw[hv'];rfl))]
  exact hh
theorem Sto.fr0 {w w':World} {L:Nat} {vs:List Int} {ls:List (List Int)} {bv:Nat} {A:Option Addr} {c:Nat} {bs:List Nat} (h:Sto w L vs ls bv A c bs) (hf:Fr NoT w w'):Sto w' L vs ls bv A c bs:=
 h.fr hf (fun h=>h) (fun _ _ h=>h) fun _ _ h=>h
theorem zkl {w:World} {b:Nat} {l:List Int} (h:Bk w b 3 (intL l).toArray) (h64:∀n∈l,is64 n) (hl:l.length≤9223372036854775807):IsSl w w.heap.size l (some ⟨b,0,none⟩) l.length:=
 ⟨Nat.le_refl _,hl,fun _=>⟨b,0,rfl,h.lt,fun i n hi=>⟨by
  rw[Nat.zero_add,h.cell i]
  simp[intL,hi],by have:=h64 n (List.mem_of_getElem? hi);unfold is64 at this;unfold in64;omega⟩⟩⟩
theorem Sto.stSl {w:World} {L:Nat} {vs:List Int} {ls:List (List Int)} {bv:Nat} {A:Option Addr} {c:Nat} {bs:List Nat} (h:Sto w L vs ls bv A c bs):StSl w w.heap.size vs ls (some ⟨bv,0,none⟩) vs.length A c:=by
 have hfew:=h.few
 refine⟨zkl h.v h.i64.1 (by omega),?_⟩
 rcases h.row.2 with⟨e,h0⟩|⟨g,cap,cur,e,hg,hh,hn,hc,hs,ht⟩
 ·simp only[Value.slice.injEq]at e
  refine⟨by rw[h0];exact Nat.zero_le _,by rw[e.2.2];decide,fun hp=>by omega⟩
 ·simp only[Value.slice.injEq]at e
  obtain⟨rfl,-,rfl⟩:=e
  refine⟨hn,by unfold maxLen at hc;omega,fun hp=>⟨g,0,rfl,(Array.getElem?_eq_some_iff.1 hh).1,fun i l hi=>?_⟩⟩
  have hil:i < bs.length:=by rw[h.len];exact(List.getElem?_eq_some_iff.1 hi).1
  obtain⟨b,hb⟩:∃b,bs[i]?=some b:=⟨_,List.getElem?_eq_getElem hil⟩
  have hc:=h.row.cells (g:=g) rfl i _ (zgJ hb hi)
  have e:(⟨g,0,none⟩:Addr).add i=⟨g,0+i,none⟩:=by rw[Nat.zero_add];unfold Addr.add;split<;>simp_all
  rw[e]at hc
  exact⟨_,_,hc,zkl (h.each i b l hb hi).2 (h.i64.2 l (List.mem_of_getElem? hi)) (by have:=h.few.2.2 l (List.mem_of_getElem? hi);omega)⟩
theorem Sto.arr {w:World} {L:Nat} {vs:List Int} {ls:List (List Int)} {bv:Nat} {A:Option Addr} {c:Nat} {bs:List Nat} (h:Sto w L vs ls bv A c bs) {i:Nat} {l:List Int} (hl:ls[i]?=some l):
  ∃g b,A=some ⟨g,0,none⟩∧w.cell? ⟨g,i,none⟩=some (.slice (some ⟨b,0,none⟩) l.length l.length)∧g < w.heap.size∧L≤g∧bs[i]?=some b∧Bk w b 3 (intL l).toArray :=by
 have hil:=(List.getElem?_eq_some_iff.1 hl).1
 rcases h.row.2 with⟨e,h0⟩|⟨g,cap,cur,e,hg,hh,hn,hc,hs,ht⟩
 ·omega
 ·simp only[Value.slice.injEq]at e
  obtain⟨rfl,-,rfl⟩:=e
  have hib:i < bs.length:=by rw[h.len];exact hil
  obtain⟨b,hb⟩:∃b,bs[i]?=some b:=⟨_,List.getElem?_eq_getElem hib⟩
  have hc:=h.row.cells (g:=g) rfl i _ (zgJ hb hl)
  have e:(⟨g,0,none⟩:Addr).add i=⟨g,i,none⟩:=by unfold Addr.add;split<;>simp_all
  rw[e]at hc
  exact⟨g,b,rfl,hc,(Array.getElem?_eq_some_iff.1 hh).1,hg,hb,(h.each i b l hb hl).2⟩
theorem zhm (l:List Int) (i:Nat) (x:Int):(intL (l.set i x))=(intL l).set i (.int .i64 x):=by simp[intL,List.map_set]
theorem zhn {l:List Int} (h:∀n∈l,is64 n) (i:Nat) {x:Int} (hx:is64 x):∀n∈l.set i x,is64 n:=fun n hn=>by
 rcases List.mem_or_eq_of_mem_set hn with h1|h1
 ·exact h n h1
 ·rw[h1];exact hx
theorem Sto.setV {w:World} {L:Nat} {vs:List Int} {ls:List (List Int)} {bv:Nat} {A:Option Addr} {c:Nat} {bs:List Nat} (h:Sto w L vs ls bv A c bs) (i:Nat) {x:Int} (hx:is64 x):
  Sto (w.setCell ⟨bv,i,none⟩ (.int .i64 x)) L (vs.set i x) ls bv A c bs∧Fr (fun b=>b=bv) w (w.setCell ⟨bv,i,none⟩ (.int .i64 x)):=by
 have hf:Fr (fun b=>b=bv) w (w.setCell ⟨bv,i,none⟩ (.int .i64 x)):=Fr.own (Fr.refl _ _) _ _
 refine⟨⟨?_,h.vl,?_,h.len,fun j b l hi hl=>⟨(h.each j b l hi hl).1,(h.each j b l hi hl).2.fr hf fun e=>h.nv (by have e:b=bv:=e;rw[←e];exact List.mem_of_getElem? hi)⟩,h.nd,h.nv,h.rv,h.rb,⟨zhn h.i64.1 i hx,h.i64.2⟩,by rw[List.length_set];exact h.few⟩,hf⟩
 ·have:=h.v.set_ i (.int .i64 x)
  rw[zhm]
  simpa using this
 ·obtain⟨h1,h2⟩:=h.row
  refine⟨h1,?_⟩
  rcases h2 with h2|⟨g,cap,cur,hv',hg,hh,r⟩
  ·exact .inl h2
  ·refine .inr ⟨g,cap,cur,hv',hg,?_,r⟩
   have hlt:g < w.heap.size:=(Array.getElem?_eq_some_iff.1 hh).1
   rw[hf.block g hlt (fun e=>h.rv (by rw[hv'];have e:g=bv:=e;rw[e];rfl))]
   exact hh
theorem Sto.setA {w:World} {L:Nat} {vs:List Int} {ls:List (List Int)} {bv:Nat} {A:Option Addr} {c:Nat} {bs:List Nat} (h:Sto w L vs ls bv A c bs) {i b:Nat} {l:List Int} (hb:bs[i]?=some b) (hl:ls[i]?=some l) (j:Nat) {x:Int} (hx:is64 x):
  Sto (w.setCell ⟨b,j,none⟩ (.int .i64 x)) L vs (ls.set i (l.set j x)) bv A c bs∧Fr (fun y=>y=b) w (w.setCell ⟨b,j,none⟩ (.int .i64 x)):=by
 have hf:Fr (fun y=>y=b) w (w.setCell ⟨b,j,none⟩ (.int .i64 x)):=Fr.own (Fr.refl _ _) _ _
 have hmb:b∈bs:=List.mem_of_getElem? hb
 refine⟨⟨h.v.fr hf fun e=>h.nv (by have e:bv=b:=e;rw[e];exact hmb),h.vl,?_,by rw[List.length_set];exact h.len,fun k b' l' hi hl'=>?_,h.nd,h.nv,by rw[List.length_set];exact h.rv,by rw[List.length_set];exact h.rb,⟨h.i64.1,fun l' hl'=>?_⟩,?_⟩,hf⟩
 ·rw[List.length_set,zhl hl (by rw[List.length_set])]
  obtain⟨h1,h2⟩:=h.row
  refine⟨h1,?_⟩
  rcases h2 with h2|⟨g,cap,cur,hv',hg,hh,r⟩
  ·exact .inl h2
  ·refine .inr ⟨g,cap,cur,hv',hg,?_,r⟩
   have hlt:g < w.heap.size:=(Array.getElem?_eq_some_iff.1 hh).1
   rw[hf.block g hlt (fun e=>h.rb b hmb (by rw[hv'];have e:g=b:=e;rw[e];rfl))]
   exact hh
 ·by_cases e:i=k
  ·subst e
   rw[hb]at hi
   obtain rfl:=Option.some.inj hi
   have hil:i < ls.length:=(List.getElem?_eq_some_iff.1 hl).1
   rw[List.getElem?_set_self hil]at hl'
   obtain rfl:=Option.some.inj hl'
   refine⟨(h.each i b l hb hl).1,?_⟩
   have:=(h.each i b l hb hl).2.set_ j (.int .i64 x)
   rw[zhm]
   simpa using this
  ·rw[List.getElem?_set_ne e]at hl'
   refine⟨(h.each k b' l' hi hl').1,(h.each k b' l' hi hl').2.fr hf fun e'=>e ?_⟩
   have e':b'=b:=e'
   subst e'
   obtain⟨p1,p2⟩:=List.getElem?_eq_some_iff.1 hb
   obtain⟨p3,p4⟩:=List.getElem?_eq_some_iff.1 hi
   rcases Nat.lt_trichotomy i k with hlt|heq|hgt
   ·exact absurd (p2.trans p4.symm) ((List.pairwise_iff_getElem.1 h.nd) i k p1 p3 hlt)
   ·exact heq
   ·exact absurd (p4.trans p2.symm) ((List.pairwise_iff_getElem.1 h.nd) k i p3 p1 hgt)
 ·rcases List.mem_or_eq_of_mem_set hl' with h1|h1
  ·exact h.i64.2 l' h1
  ·rw[h1];exact zhn (h.i64.2 l (List.mem_of_getElem? hl)) j hx
 ·refine⟨h.few.1,by rw[List.length_set];exact h.few.2.1,fun l' hl'=>?_⟩
  rcases List.mem_or_eq_of_mem_set hl' with h1|h1
  ·exact h.few.2.2 l' h1
  ·rw[h1,List.length_set];exact h.few.2.2 l (List.mem_of_getElem? hl)
end Go.Proofs.YtobegfbdedgmpaaGreatDoor
