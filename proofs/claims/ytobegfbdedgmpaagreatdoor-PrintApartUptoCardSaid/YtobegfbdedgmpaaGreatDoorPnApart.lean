/-
  law10: PrintApart.
-/
import Derived.Test.YtobegfbdedgmpaaGreatDoorJnPnN
import Derived.Test.YtobegfbdedgmpaaGreatDoorJnPq
import Derived.Test.YtobegfbdedgmpaaGreatDoorPnEqT
import Derived.Test.YtobegfbdedgmpaaGreatDoorJnCq
set_option linter.unusedVariables false
set_option linter.unusedSimpArgs false
namespace Go.Proofs.YtobegfbdedgmpaaGreatDoor
open Go.RowKit Go.Shelf

theorem upto_room {t:Tre} {w:World} {S:Nat→Prop} {Z:Prop} {Av Aa Ap Am:Option Addr} {cv ca cp cm:Nat} (hx:TrR w S Z t Av Aa Ap Am cv ca cp cm) (hm:mT t≤1048576):okTr t=true→sumT (treT t)≤140737488355328:=fun h=>by
 have:=treT_room h (rgT_of hx)
 omega
theorem str_eq2 (a b:List UInt8):((⟨a.toArray⟩:ByteArray).toList ==(⟨b.toArray⟩:ByteArray).toList)=decide (a=b):=by
 rw[Bool.eq_iff_iff,beq_iff_eq,decide_eq_true_eq,toList_data]
theorem bk_twoP (w:World) (c0 c1:Array Value) (t0 t1:TypeId):Bk ((w.alloc (.cells c0 t0)).alloc (.cells c1 t1)) w.heap.size t0 c0∧Bk ((w.alloc (.cells c0 t0)).alloc (.cells c1 t1)) (w.heap.size+1) t1 c1:=
 ⟨(Bk.new _ _ _).alloc _,Bk.new_at _ _ _ (by simp)⟩
set_option maxRecDepth 100000 in
set_option maxHeartbeats 3200000 in
theorem papart_any (t u:Tre) (w:World) (S:Nat→Prop) (Z:Prop) (Av Aa Ap Am:Option Addr) (cv ca cp cm:Nat) (Bv Ba Bp Bm:Option Addr) (dv da dp dm:Nat) (he:NameEnv w) (hS:∀b,S b→b < w.heap.size) (szt:SzT t) (szu:SzT u) (hx:TrR w S Z t Av Aa Ap Am cv ca cp cm) (hy:TrR w S Z u Bv Ba Bp Bm dv da dp dm) (mt:mT t≤1048576) (mu:mT u≤1048576):
  Calls Tryz.prog 3 #[trV t Av Aa Ap Am cv ca cp cm,trV u Bv Ba Bp Bm dv da dp dm] w (TruePost w):=by
 have H1:=Lib.hid (fun W (h:Fr NoT w W)=>palive_any W (he.keep h.plain))
 have hSW:=fun(W:World) (hf:Fr NoT w W) b (hb:S b)=>Nat.lt_of_lt_of_le (hS b hb) hf.size
 have kx:=fun(W:World) (hf:Fr NoT w W)=>hx.keep (hf.same fun b hb=>⟨hS b hb,id⟩)
 have ky:=fun(W:World) (hf:Fr NoT w W)=>hy.keep (hf.same fun b hb=>⟨hS b hb,id⟩)
 have g1:=fun(W:World) (hf:Fr NoT w W)=>tgreat_any t W S Z Av Aa Ap Am cv ca cp cm (hSW W hf) (kx W hf)
 have g2:=fun(W:World) (hf:Fr NoT w W)=>tgreat_any u W S Z Bv Ba Bp Bm dv da dp dm (hSW W hf) (ky W hf)
 have p1:=fun(W:World) (hf:Fr NoT w W)=>print_any t W S Z Av Aa Ap Am cv ca cp cm (he.keep hf.plain) (hSW W hf) szt (kx W hf) (upto_room hx mt)
 have p2:=fun(W:World) (hf:Fr NoT w W)=>print_any u W S Z Bv Ba Bp Bm dv da dp dm (he.keep hf.plain) (hSW W hf) szu (ky W hf) (upto_room hy mu)
 have q1:=fun(W:World) (hf:Fr NoT w W)=>psame_any t u W S S Z Z Av Aa Ap Am Bv Ba Bp Bm cv ca cp cm dv da dp dm (hSW W hf) (hSW W hf) (kx W hf) (ky W hf)
 have hiff:=fun ht hu=>printB_iff (t:=t) (u:=u) ht hu (rgT_of hx) (rgT_of hy)
 unfold trV at g1 g2 p1 p2 q1 ⊢
 obtain⟨n1,hn1⟩:∃n,n=t.vars.length:=⟨_,rfl⟩
 obtain⟨n2,hn2⟩:∃n,n=t.arrays.length:=⟨_,rfl⟩
 obtain⟨n3,hn3⟩:∃n,n=t.procs.length:=⟨_,rfl⟩
 obtain⟨n4,hn4⟩:∃n,n=t.main.len:=⟨_,rfl⟩
 obtain⟨m1,hm1⟩:∃n,n=u.vars.length:=⟨_,rfl⟩
 obtain⟨m2,hm2⟩:∃n,n=u.arrays.length:=⟨_,rfl⟩
 obtain⟨m3,hm3⟩:∃n,n=u.procs.length:=⟨_,rfl⟩
 obtain⟨m4,hm4⟩:∃n,n=u.main.len:=⟨_,rfl⟩
 rw[←hn1,←hn2,←hn3,←hn4]at g1 p1 q1 ⊢
 rw[←hm1,←hm2,←hm3,←hm4]at g2 p2 q1 ⊢
 obtain⟨a,ha⟩:∃a:ByteArray,a=⟨(prB t).toArray⟩:=⟨_,rfl⟩
 obtain⟨b,hb⟩:∃a:ByteArray,a=⟨(prB u).toArray⟩:=⟨_,rfl⟩
 obtain⟨e,hee⟩:∃e,e=prE t:=⟨_,rfl⟩
 obtain⟨f,hff⟩:∃e,e=prE u:=⟨_,rfl⟩
 obtain⟨q,hq⟩:∃q,q=eqT false t u:=⟨_,rfl⟩
 rw[←ha,←hee]at p1
 rw[←hb,←hff]at p2
 rw[←hq]at q1
 have hlaw:e=0→f=0→((a.toList==b.toList)=true∧q=true)∨((a.toList==b.toList)=false∧q=false):=by
  intro e0 f0
  have ht:okTr t=true:=by
   cases h:okTr t
   ·rw[hee]at e0;unfold prE at e0;rw[h]at e0;simp at e0
   ·rfl
  have hu:okTr u=true:=by
   cases h:okTr u
   ·rw[hff]at f0;unfold prE at f0;rw[h]at f0;simp at f0
   ·rfl
  rw[ha,hb,str_eq2,hq]
  unfold prB
  rw[if_pos ht,if_pos hu]
  rcases hiff ht hu with⟨h1,h2⟩|⟨h1,h2⟩
  ·exact .inl ⟨decide_eq_true h1,h2⟩
  ·exact .inr ⟨decide_eq_false h1,h2⟩
 obtain⟨w1,hw1⟩:∃y,y=(w.alloc (.cells #[.slice Av n1 cv,.slice Aa n2 ca,.slice Ap n3 cp,.slice Am n4 cm] 27)).alloc (.cells #[.slice Bv m1 dv,.slice Ba m2 da,.slice Bp m3 dp,.slice Bm m4 dm] 27):=⟨_,rfl⟩
 have hf1:Fr NoT w w1:=by rw[hw1];exact((Fr.refl _ _).alloc _).alloc _
 have kk:=bk_twoP w #[.slice Av n1 cv,.slice Aa n2 ca,.slice Ap n3 cp,.slice Am n4 cm] #[.slice Bv m1 dv,.slice Ba m2 da,.slice Bp m3 dp,.slice Bm m4 dm] 27 27
 rw[←hw1]at kk
 have HW1:=Lib.hid hw1
 have HF1:=Lib.hid hf1
 have HK:=Lib.hid kk
 have G1:=Lib.hid g1
 have G2:=Lib.hid g2
 have P1:=Lib.hid p1
 have P2:=Lib.hid p2
 have Q1:=Lib.hid q1
 have HL:=Lib.hid hlaw
 clear hw1 hf1 kk g1 g2 p1 p2 q1 hlaw hn1 hn2 hn3 hn4 hm1 hm2 hm3 hm4 ha hb hee hff hq hiff kx ky hSW he hS szt szu hx hy mt mu
 go_enter Tryz.func3,Tryz.ntmps3
 go_wp2_with fail
 rw[←HW1.out]
 refine(H1.out w1 HF1.out).mono ?_
 rintro _ w2 ⟨rfl,hb2⟩
 have HF2:=Lib.hid (HF1.out.trans (Fr.below hb2:Fr NoT w1 w2))
 have HK2:=Lib.hid (And.intro (HK.out.1.fr0 (Fr.below hb2:Fr NoT w1 w2)) (HK.out.2.fr0 (Fr.below hb2:Fr NoT w1 w2)))
 clear hb2
 have ac0:=HK2.out.1.cell 0
 have ac1:=HK2.out.1.cell 1
 have ac2:=HK2.out.1.cell 2
 have ac3:=HK2.out.1.cell 3
 have al:=HK2.out.1.lt
 have bc0:=HK2.out.2.cell 0
 have bc1:=HK2.out.2.cell 1
 have bc2:=HK2.out.2.cell 2
 have bc3:=HK2.out.2.cell 3
 have bl:=HK2.out.2.lt
 simp only[getsL]at ac0 ac1 ac2 ac3 bc0 bc1 bc2 bc3
 go_wp2_with fail
 go_at_call 15
 refine(G1.out w2 HF2.out).mono ?_
 rintro _ w3 ⟨r1,rfl,hb3⟩
 have HF3:=Lib.hid (HF2.out.trans hb3)
 have HK3:=Lib.hid (And.intro (HK2.out.1.fr0 hb3) (HK2.out.2.fr0 hb3))
 clear hb3
 clear ac0 ac1 ac2 ac3 bc0 bc1 bc2 bc3 al bl
 cases r1 with
 |true=>
  go_wp2_with fail
  go_ret
  exact⟨rfl,HF3.out.plain⟩
 |false=>
  have ac0:=HK3.out.1.cell 0
  have ac1:=HK3.out.1.cell 1
  have ac2:=HK3.out.1.cell 2
  have ac3:=HK3.out.1.cell 3
  have al:=HK3.out.1.lt
  have bc0:=HK3.out.2.cell 0
  have bc1:=HK3.out.2.cell 1
  have bc2:=HK3.out.2.cell 2
  have bc3:=HK3.out.2.cell 3
  have bl:=HK3.out.2.lt
  simp only[getsL]at ac0 ac1 ac2 ac3 bc0 bc1 bc2 bc3
  go_wp2_with fail
  go_at_call 15
  refine(G2.out w3 HF3.out).mono ?_
  rintro _ w4 ⟨r2,rfl,hb4⟩
  have HF4:=Lib.hid (HF3.out.trans hb4)
  have HK4:=Lib.hid (And.intro (HK3.out.1.fr0 hb4) (HK3.out.2.fr0 hb4))
  clear hb4
  clear ac0 ac1 ac2 ac3 bc0 bc1 bc2 bc3 al bl
  cases r2 with
  |true=>
   go_wp2_with fail
   go_ret
   exact⟨rfl,HF4.out.plain⟩
  |false=>
   have ac0:=HK4.out.1.cell 0
   have ac1:=HK4.out.1.cell 1
   have ac2:=HK4.out.1.cell 2
   have ac3:=HK4.out.1.cell 3
   have al:=HK4.out.1.lt
   have bc0:=HK4.out.2.cell 0
   have bc1:=HK4.out.2.cell 1
   have bc2:=HK4.out.2.cell 2
   have bc3:=HK4.out.2.cell 3
   have bl:=HK4.out.2.lt
   simp only[getsL]at ac0 ac1 ac2 ac3 bc0 bc1 bc2 bc3
   go_wp2_with fail
   go_at_call 16
   refine(P1.out w4 HF4.out).mono ?_
   rintro _ w5 ⟨rfl,hf5⟩
   have HF5:=Lib.hid (HF4.out.trans hf5)
   have HK5:=Lib.hid (And.intro (HK4.out.1.fr0 hf5) (HK4.out.2.fr0 hf5))
   clear hf5
   clear ac0 ac1 ac2 ac3 bc0 bc1 bc2 bc3 al bl
   have ac0:=HK5.out.1.cell 0
   have ac1:=HK5.out.1.cell 1
   have ac2:=HK5.out.1.cell 2
   have ac3:=HK5.out.1.cell 3
   have al:=HK5.out.1.lt
   have bc0:=HK5.out.2.cell 0
   have bc1:=HK5.out.2.cell 1
   have bc2:=HK5.out.2.cell 2
   have bc3:=HK5.out.2.cell 3
   have bl:=HK5.out.2.lt
   simp only[getsL]at ac0 ac1 ac2 ac3 bc0 bc1 bc2 bc3
   go_wp2_with fail
   go_at_call 16
   refine(P2.out w5 HF5.out).mono ?_
   rintro _ w6 ⟨rfl,hf6⟩
   have HF6:=Lib.hid (HF5.out.trans hf6)
   have HK6:=Lib.hid (And.intro (HK5.out.1.fr0 hf6) (HK5.out.2.fr0 hf6))
   clear hf6
   clear ac0 ac1 ac2 ac3 bc0 bc1 bc2 bc3 al bl
   by_cases he0:e=0
   ·subst he0
    by_cases hf0:f=0
    ·subst hf0
     have hl:=HL.out rfl rfl
     have ac0:=HK6.out.1.cell 0
     have ac1:=HK6.out.1.cell 1
     have ac2:=HK6.out.1.cell 2
     have ac3:=HK6.out.1.cell 3
     have al:=HK6.out.1.lt
     have bc0:=HK6.out.2.cell 0
     have bc1:=HK6.out.2.cell 1
     have bc2:=HK6.out.2.cell 2
     have bc3:=HK6.out.2.cell 3
     have bl:=HK6.out.2.lt
     simp only[getsL]at ac0 ac1 ac2 ac3 bc0 bc1 bc2 bc3
     go_wp2_with fail
     go_at_call 17
     refine(Q1.out w6 HF6.out).mono ?_
     rintro _ w7 ⟨rfl,hf7⟩
     have HF7:=Lib.hid (HF6.out.trans hf7)
     clear hf7
     clear ac0 ac1 ac2 ac3 bc0 bc1 bc2 bc3 al bl
     rcases hl with⟨h1,h2⟩|⟨h1,h2⟩
     ·subst h2
      go_wp2_with fail
      go_ret
      exact⟨rfl,HF7.out.plain⟩
     ·subst h2
      go_wp2_with fail
      go_ret
      exact⟨rfl,HF7.out.plain⟩
    ·go_wp2_with fail
     go_ret
     exact⟨rfl,HF6.out.plain⟩
   ·go_wp2_with fail
    go_ret
    exact⟨rfl,HF6.out.plain⟩
end Go.Proofs.YtobegfbdedgmpaaGreatDoor
