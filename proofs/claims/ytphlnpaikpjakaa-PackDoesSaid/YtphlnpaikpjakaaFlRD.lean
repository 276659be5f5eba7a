/-
  facetroomref13.mayOut: whether the edges out of a node may be.
-/
import Derived.Test.YtphlnpaikpjakaaFlRA
import Derived.Test.YtphlnpaikpjakaaFlRC
set_option maxHeartbeats 1600000
set_option maxRecDepth 100000
namespace Go.Proofs.Ytphlnpaikpjakaa
open Go.RowKit Go.Shelf

def rightL:List Ed→Bool
 | []=>true
 |l=>rightB l
theorem rmayOut_0 (vars:Int) (Aa:Option Addr) (na ca:Nat) (nodes start last:Int) (Ae:Option Addr) (ne ce:Nat) (A:Option Addr) (c:Nat) (w:World):
  Calls Try.prog 42 #[grV vars Aa na ca nodes start last Ae ne ce,.slice A 0 c] w (BoolPost true w):=by
 unfold grV
 go_enter Try.func42,Try.ntmps42
 go_wp2
 go_ret
 exact⟨rfl,(Below.refl _ _).alloc (lrq _) _⟩
theorem rmayOut_1 (a:Ed) (i:Nat) (vars:Int) (Aa:Option Addr) (na ca:Nat) (nodes start last:Int) (Ae:Option Addr) (ce:Nat) (l:List Ed) (A:Option Addr) (c B:Nat) (w:World) (hB:B≤w.heap.size)
  (hx:EdSl w B l Ae ce) (hs:IsSl w w.heap.size [(i:Int)] A c) (ha:l[i]?=some a):
  Calls Try.prog 42 #[grV vars Aa na ca nodes start last Ae l.length ce,.slice A 1 c] w (BoolPost (rightB [a]) w):=by
 have hl:l.length≤9223372036854775807:=leq9 hx.1 hx.2.1
 have hil:i < l.length:=(List.getElem?_eq_some_iff.1 ha).1
 obtain⟨g,o,rfl,hat⟩:=hx.2.2 (by omega)
 obtain⟨hbB,c0,c1,c2,c3,c4,⟨A1,k1,c5,s1⟩,c6,hok⟩:=hat.at_ ha
 obtain⟨g',o',rfl,hg',his⟩:=hs.2.2 (by simp)
 have d0:=(his 0 _ rfl).1
 rw[Nat.add_zero]at d0
 have hgw:g < w.heap.size:=ltq hbB hB
 obtain⟨n,hn⟩:=nmq l.length
 rw[←hn]at hl hil ⊢
 clear hn hx hs hat his hok s1 ha hbB hB c0 c1 c6
 have hi1:(i:Int) < (n:Int):=by omega
 have hi0:(0:Int)≤(i:Int):=by omega
 have hn0:¬g=w.heap.size:=by omega
 have hn1:¬g'=w.heap.size:=by omega
 unfold grV
 go_enter Try.func42,Try.ntmps42
 go_wp2_with fail
 go_region
 all_goals
  go_wp2_with fail
  go_ret
  exact⟨rfl,(((Below.refl w.heap.size w).alloc (lrq _) _).alloc (by simp) _).drew⟩
theorem cells2d (w:World) (c0 c1:Array Value) (t0 t1:TypeId) (i:Nat):((w.alloc (.cells c0 t0)).alloc (.cells c1 t1)).drew.cell? ⟨w.heap.size,i,none⟩=c0[i]?∧((w.alloc (.cells c0 t0)).alloc (.cells c1 t1)).drew.cell? ⟨w.heap.size+1,i,none⟩=c1[i]?:=cells2 w c0 c1 t0 t1 i
theorem rmayOut_n (a b:Ed) (i j m:Nat) (hm:2≤m) (vars:Int) (Aa:Option Addr) (na ca:Nat) (nodes start last:Int) (Ae:Option Addr) (ce:Nat) (l:List Ed) (is:List Int) (A:Option Addr) (c B:Nat) (w:World) (hB:B≤w.heap.size)
  (hx:EdSl w B l Ae ce) (hs:IsSl w w.heap.size is A c) (hlen:is.length=m) (hi:is[0]?=some (i:Int)) (hj:is[1]?=some (j:Int)) (ha:l[i]?=some a) (hb:l[j]?=some b) (hcm:a.kind=6→3≤a.cmp∧a.cmp≤8):
  Calls Try.prog 42 #[grV vars Aa na ca nodes start last Ae l.length ce,.slice A m c] w (BoolPost (m==2&&rightB [a,b]) w):=by
 have hl:l.length≤9223372036854775807:=leq9 hx.1 hx.2.1
 have hml:m≤9223372036854775807:=by rw[←hlen];exact leq9 hs.1 hs.2.1
 have hil:i < l.length:=(List.getElem?_eq_some_iff.1 ha).1
 have hjl:j < l.length:=(List.getElem?_eq_some_iff.1 hb).1
 obtain⟨g,o,rfl,hat⟩:=hx.2.2 (by omega)
 obtain⟨hbB,c0,c1,c2,c3,c4,⟨A1,k1,c5,s1⟩,c6,hok⟩:=hat.at_ ha
 obtain⟨_,e0,e1,e2,e3,e4,⟨A2,k2,e5,s2⟩,e6,hok'⟩:=hat.at_ hb
 obtain⟨g',o',rfl,hg',his⟩:=hs.2.2 (by omega)
 have d0:=(his 0 _ hi).1
 rw[Nat.add_zero]at d0
 have d1:=(his 1 _ hj).1
 have hgw:g < w.heap.size:=ltq hbB hB
 obtain⟨n,hn⟩:=nmq l.length
 rw[←hn]at hl hil hjl ⊢
 have S1:=hdq s1
 have S2:=hdq s2
 clear hn hx hs hat his hok hok' s1 s2 ha hb hbB c0 c1 c6 e0 e1 e6 hi hj hlen
 have hi1:(i:Int) < (n:Int):=by omega
 have hi0:(0:Int)≤(i:Int):=by omega
 have hj1:(j:Int) < (n:Int):=by omega
 have hj0:(0:Int)≤(j:Int):=by omega
 have hm1:(1:Int) < (m:Int):=by omega
 have hm0:(0:Int) < (m:Int):=by omega
 have bm0:((m:Int)==0)=false:=by simp;omega
 have bm1:((m:Int)==1)=false:=by simp;omega
 have hn0:¬g=w.heap.size:=by omega
 have hn1:¬g'=w.heap.size:=by omega
 unfold grV
 go_enter Try.func42,Try.ntmps42
 go_upto_region 3 with fail
 go_cut [5] (fun s5 wx=>s5= .pointer (some ⟨w.heap.size+1,0,none⟩)∧Below w.heap.size w wx∧wx.heap.size=w.heap.size+2∧wx.cell? ⟨w.heap.size,5,none⟩=some (.slice (some ⟨g,o,none⟩) n ce)∧
  wx.cell? ⟨w.heap.size+1,0,none⟩=some (.int .u8 a.kind)∧wx.cell? ⟨w.heap.size+1,2,none⟩=some (.int .u8 a.cmp)∧wx.cell? ⟨w.heap.size+1,3,none⟩=some (.slice A1 a.args.len k1))
 case first=>
  go_region
  all_goals
   go_wp2_with fail
   go_meet
   exact⟨rfl,(((Below.refl w.heap.size w).alloc (lrq _) _).alloc (by simp) _).drew,by simp,(cells2d w _ _ _ _ 5).1,(cells2d w _ _ _ _ 0).2,(cells2d w _ _ _ _ 2).2,(cells2d w _ _ _ _ 3).2⟩
 case rest=>
  obtain⟨rfl,hbx,hsx,x5,y0,y2,y3⟩:=hcut
  have e2':=(hbx.cell (p:=⟨g,o+j*7+2,none⟩) hgw).trans e2
  have e3':=(hbx.cell (p:=⟨g,o+j*7+3,none⟩) hgw).trans e3
  have e4':=(hbx.cell (p:=⟨g,o+j*7+4,none⟩) hgw).trans e4
  have e5':=(hbx.cell (p:=⟨g,o+j*7+5,none⟩) hgw).trans e5
  have d1':=(hbx.cell (p:=⟨g',o'+1,none⟩) hg').trans d1
  have hgx:g < wc.heap.size:=by omega
  have hgx1:g' < wc.heap.size:=by omega
  have hwx1:w.heap.size < wc.heap.size:=by omega
  have hgx':¬g'=wc.heap.size:=by omega
  have hwx:¬w.heap.size=wc.heap.size:=by omega
  have HSX:=hdq hsx
  clear c2 c3 c4 c5 e2 e3 e4 e5 d0 d1 hn0 hn1 hsx
  go_upto_region 6 with fail
  go_cut [6] (fun s6 wy=>s6= .pointer (some ⟨w.heap.size+2,0,none⟩)∧Below w.heap.size w wy∧wy.heap.size=w.heap.size+3∧
   wy.cell? ⟨w.heap.size+1,0,none⟩=some (.int .u8 a.kind)∧wy.cell? ⟨w.heap.size+1,2,none⟩=some (.int .u8 a.cmp)∧wy.cell? ⟨w.heap.size+1,3,none⟩=some (.slice A1 a.args.len k1)∧
   wy.cell? ⟨w.heap.size+2,0,none⟩=some (.int .u8 b.kind)∧wy.cell? ⟨w.heap.size+2,2,none⟩=some (.int .u8 b.cmp)∧wy.cell? ⟨w.heap.size+2,3,none⟩=some (.slice A2 b.args.len k2))
  case first=>
   go_region
   all_goals
    go_wp2_with fail
    go_meet
    have hsx:=HSX.out
    refine⟨by rw[hsx],hbx.trans (((Below.refl wc.heap.size wc).alloc (lrq _) _).drew.mono hbx.size),by simp[hsx],?_,?_,?_,?_,?_,?_⟩
    ·exact(((Below.refl wc.heap.size wc).alloc (lrq _) _).drew.cell (p:=⟨w.heap.size+1,0,none⟩) (by rw[hsx];exact Nat.lt_succ_self _)).trans y0
    ·exact(((Below.refl wc.heap.size wc).alloc (lrq _) _).drew.cell (p:=⟨w.heap.size+1,2,none⟩) (by rw[hsx];exact Nat.lt_succ_self _)).trans y2
    ·exact(((Below.refl wc.heap.size wc).alloc (lrq _) _).drew.cell (p:=⟨w.heap.size+1,3,none⟩) (by rw[hsx];exact Nat.lt_succ_self _)).trans y3
    all_goals
     rw[←hsx]
     simp
  case rest=>
   obtain⟨rfl,hby,hsy,y0,y2,y3,z0,z2,z3⟩:=hcut
   clear hbx HSX x5 e2' e3' e4' e5' d1' hgx hgx' hwx hgx1 hwx1
   cases hm2:((m:Int)==2)
   ·have hm3:(m==2)=false:=by simp at hm2 ⊢;omega
    have HM:=hdq hm3
    clear hm3
    go_wp2_with fail
    go_quiet (fail)
    go_wp2_with fail
    go_ret
    exact⟨by rw[HM.out];rfl,below_drewN' hby _⟩
   have hm3:(m==2)=true:=by simp at hm2 ⊢;omega
   have HM:=hdq hm3
   clear hm3
   cases h1:a.kind==6
   ·have HF:=hdq (show rightB [a,b]=false from by simp only[rightB,h1];rfl)
    clear hcm
    go_wp2_with fail
    go_quiet (fail)
    go_wp2_with fail
    go_ret
    exact⟨by rw[HM.out,HF.out];rfl,below_drewN' hby _⟩
   cases h2:b.kind==6
   ·have HF:=hdq (show rightB [a,b]=false from by simp only[rightB,h1,h2];rfl)
    clear hcm
    go_wp2_with fail
    go_quiet (fail)
    go_wp2_with fail
    go_ret
    exact⟨by rw[HM.out,HF.out];rfl,below_drewN' hby _⟩
   obtain⟨m0,m1⟩:=hcm (eq_of_beq h1)
   have HO:=hdq (fun(W:World) (h:Below wc.heap.size wc W)=>(ropp_any a.cmp W m0 m1).mono fun e w' h2=>show e= .returned (.int .u8 (oppC a.cmp))∧Below wc.heap.size wc w' from⟨h2.1,h.trans (h2.2.mono h.size)⟩)
   have HA:=hdq (fun(W:World) (h:Below wc.heap.size wc W)=>(r_alike_any a.args b.args A1 A2 k1 k2 W B (S1.out.keep (Same.of (hby.trans (h.mono hby.size)) hB)) (S2.out.keep (Same.of (hby.trans (h.mono hby.size)) hB))).mono fun e w' h2=>show e= .returned (.bool (alikeX a.args b.args))∧Below wc.heap.size wc w' from⟨h2.1,by obtain⟨q,rfl⟩:=h2.2;exact below_drewN' h _⟩)
   have z0a:∀z:HeldW (Below wc.heap.size wc),z.w.cell? ⟨w.heap.size+1,0,none⟩=some (.int .u8 a.kind):=fun z=>(z.h.cell (by simp;omega)).trans y0
   have z2a:∀z:HeldW (Below wc.heap.size wc),z.w.cell? ⟨w.heap.size+1,2,none⟩=some (.int .u8 a.cmp):=fun z=>(z.h.cell (by simp;omega)).trans y2
   have z3a:∀z:HeldW (Below wc.heap.size wc),z.w.cell? ⟨w.heap.size+1,3,none⟩=some (.slice A1 a.args.len k1):=fun z=>(z.h.cell (by simp;omega)).trans y3
   have z0b:∀z:HeldW (Below wc.heap.size wc),z.w.cell? ⟨w.heap.size+2,0,none⟩=some (.int .u8 b.kind):=fun z=>(z.h.cell (by simp;omega)).trans z0
   have z2b:∀z:HeldW (Below wc.heap.size wc),z.w.cell? ⟨w.heap.size+2,2,none⟩=some (.int .u8 b.cmp):=fun z=>(z.h.cell (by simp;omega)).trans z2
   have z3b:∀z:HeldW (Below wc.heap.size wc),z.w.cell? ⟨w.heap.size+2,3,none⟩=some (.slice A2 b.args.len k2):=fun z=>(z.h.cell (by simp;omega)).trans z3
   obtain⟨oc,hoc⟩:=nmq (oppC a.cmp)
   obtain⟨r,hr⟩:=nmq (alikeX a.args b.args)
   have HG:=hdq (show rightB [a,b]=((b.cmp==oc)&&r)from by simp only[rightB,h1,h2,hoc,hr];rfl)
   rw[←hoc]at HO
   rw[←hr]at HA
   have hb0:Below wc.heap.size wc wc.drew:=(Below.refl _ _).drew
   clear hcm m0 m1 hoc hr
   have HSY:=hdq hsy
   clear hsy
   cases h3:b.cmp==oc
   ·have HF:=hdq (show rightB [a,b]=false from by rw[HG.out,h3];rfl)
    go_wp2_with fail
    refine wp_region_held (Below wc.heap.size wc) hb0 (by kernel_rfl) (by kernel_rfl) ?_
    have hne:Nonempty (HeldW (Below wc.heap.size wc)):=⟨⟨_,hb0⟩⟩
    repeat(go_big_quiet_step (first|(go_at_call 67;exact held_call HO.out)|(go_at_call 68;exact held_call HA.out)))
    refine wpQuiet_nil ?_
    intro _ hw'
    obtain⟨z,rfl⟩:=hw'
    go_wp2_with fail
    go_ret
    exact⟨by rw[HM.out,HF.out];rfl,hby.trans (z.h.mono hby.size)⟩
   ·have HF:=hdq (show rightB [a,b]=r from by rw[HG.out,h3];rfl)
    go_wp2_with fail
    refine wp_region_held (Below wc.heap.size wc) hb0 (by kernel_rfl) (by kernel_rfl) ?_
    have hne:Nonempty (HeldW (Below wc.heap.size wc)):=⟨⟨_,hb0⟩⟩
    repeat(go_big_quiet_step (first|(go_at_call 67;exact held_call HO.out)|(go_at_call 68;exact held_call HA.out)))
    refine wpQuiet_nil ?_
    intro _ hw'
    obtain⟨z,rfl⟩:=hw'
    go_wp2_with fail
    go_ret
    exact⟨by rw[HM.out,HF.out];rfl,hby.trans (z.h.mono hby.size)⟩
end Go.Proofs.Ytphlnpaikpjakaa
