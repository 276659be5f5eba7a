/-
  flow's maker: ways of a condition: the closures.
-/
import Derived.Test.YtobegfbdedgmpaaGreatDoorJnFg2
set_option linter.unusedVariables false
set_option linter.unusedSimpArgs false
set_option maxHeartbeats 3200000
set_option maxRecDepth 100000
namespace Go.Proofs.YtobegfbdedgmpaaGreatDoor
open Go.RowKit Go.Shelf

structure FgC where
 B:Nat
 b:Nat
 mS:Nat
 mA:Nat
 vars:Int
 sl:Value
 sc:NoN
 ar:NoN
 r1:NoR sc
 r2:NoR ar
def FgC.At (C:FgC) (s:FgS) (v:Value) (w:World):Prop:=MkS C.B C.b C.mS C.mA C.vars C.sl C.sc C.ar s v w
theorem FgC.At.fr0 {C:FgC} {s:FgS} {v:Value} {w w':World} (h:C.At s v w) (hf:Fr NoT w w'):C.At s v w':=MkS.fr0 h hf
def FgC.put (C:FgC) (s:FgS) (from_ to_ at_ kind n cmp:Int) (args:Exs):FgS:=s.put C.sc C.ar from_ to_ at_ kind n cmp args
def MkP (C:FgC) (s:FgS) (u:Value) (W:World) (e:Ending) (w':World):Prop:=∃u',e= .returned (.tuple #[])∧C.At s u' w'∧Made C.b u u' W w'
def FgK (B lo hi x:Nat):Prop:=x < B∨(lo≤x∧x < hi)
def Off (K:Nat→Prop) (b:Nat) (v:Value):Prop:=∀x,K x→¬MOwn b v x
def Room (N:Nat) (s:FgS):Prop:=0≤s.nodes∧s.nodes+N≤1000000000000∧s.edges.length+N≤1000000000000
def Grow (N:Nat) (s s':FgS):Prop:=s.nodes≤s'.nodes∧s'.nodes≤s.nodes+N∧s'.edges.length≤s.edges.length+N
section
variable {N M:Nat} {s s1 s2:FgS}
theorem Grow.trans (h:Grow N s s1) (k:Grow M s1 s2):Grow (N+M) s s2:=by
 unfold Grow at*
 obtain⟨h1,h2,h3⟩:=h
 obtain⟨k1,k2,k3⟩:=k
 refine⟨?_,?_,?_⟩
 ·omega
 ·push_cast;omega
 ·omega
theorem Grow.mono (h:Grow N s s1) (hn:N≤M):Grow M s s1:=by
 unfold Grow at*
 obtain⟨h1,h2,h3⟩:=h
 refine⟨h1,?_,?_⟩<;>omega
theorem Room.less (h:Room M s) (hn:N≤M):Room N s:=by
 unfold Room at*
 obtain⟨h1,h2,h3⟩:=h
 refine⟨h1,?_,?_⟩<;>omega
theorem Room.after (h:Room (N+M) s) (g:Grow N s s1):Room M s1:=by
 unfold Room Grow at*
 obtain⟨h1,h2,h3⟩:=h
 obtain⟨g1,g2,g3⟩:=g
 push_cast at h2
 refine⟨?_,?_,?_⟩<;>omega
theorem Room.in_ (h:Room N s):in64 s.nodes:=by
 unfold Room at h
 unfold in64
 obtain⟨h1,h2,h3⟩:=h
 constructor<;>omega
theorem grow_put (C:FgC) (s:FgS) (a b c d e f:Int) (xs:Exs):Grow 1 s (C.put s a b c d e f xs):=by
 unfold Grow FgC.put FgS.put
 refine⟨?_,?_,?_⟩<;>simp
 omega
theorem grow_node (s:FgS):Grow 1 s s.node:=by
 unfold Grow FgS.node
 refine⟨?_,?_,?_⟩<;>simp
 omega
end
def WayP (C:FgC) (K:Nat→Prop) (val:Value) (c:Way) (N:Nat) (w:World):Prop:=
 ∃g caps,val= .func (.func g) #[] caps∧Enters Tryz.prog g∧(∀f y n s,Grow N s (c f y n s))∧
  ∀(W:World) (s:FgS) (u:Value),SameS K w W→w.heap.size≤W.heap.size→C.At s u W→Off K C.b u→Room N s→∀f y n,in64 f→in64 y→in64 n→
   Calls Tryz.prog g (#[.int .i64 f,.int .i64 y,.int .i64 n]++caps) W (MkP C (c f y n s) u W)
section
variable {C:FgC} {K L:Nat→Prop} {val:Value} {c:Way} {N M:Nat} {w w':World} {s s':FgS} {u u':Value}
theorem WayP.more (h:WayP C K val c N w) (hk:∀x,K x→L x) (hn:N≤M):WayP C L val c M w:=by
 obtain⟨g,caps,h1,h2,h3,h4⟩:=h
 exact⟨g,caps,h1,h2,fun f y n s=>(h3 f y n s).mono hn,fun W s u a1 a0 a2 a3 a4=>h4 W s u (a1.mono hk) a0 a2 (fun x hx=>a3 x (hk x hx)) (a4.less hn)⟩
theorem WayP.later (h:WayP C K val c N w) (hs:SameS K w w') (hl:w.heap.size≤w'.heap.size):WayP C K val c N w':=by
 obtain⟨g,caps,h1,h2,h3,h4⟩:=h
 exact⟨g,caps,h1,h2,h3,fun W s u a1 a0=>h4 W s u (hs.trans a1) (Nat.le_trans hl a0)⟩
theorem off_step (hm:Made C.b u u' w w') (ho:Off K C.b u) (hk:∀x,K x→x < w.heap.size):SameS K w w'∧Off K C.b u':=by
 refine⟨hm.fr.same fun x hx=>⟨hk x hx,ho x hx⟩,fun x hx=>?_⟩
 rintro(e|e)
 ·exact ho x hx (.inl e)
 ·rcases hm.row x e with e2|e2
  ·exact ho x hx (.inr e2)
  ·have:=hk x hx;omega
theorem fput_c (h:C.At s u w) (from_ to_ at_ kind n cmp:Int) (hok:in64 from_∧in64 to_∧in8 kind∧in64 n∧in8 cmp∧in64 at_) (xs:Exs) (S:Nat→Prop) (Z:Prop) (A:Option Addr) (c:Nat) (hS:∀x,S x→x < C.B) (hz:szQ xs) (hx:SlR (fun b o=>ExR w S Z xs b o) xs.len 64 A c) (hr:Room 1 s):
  Calls Tryz.prog 123 #[.pointer (some ⟨C.b,0,none⟩),.int .i64 from_,.int .i64 to_,.int .i64 at_,.agg #[.int .u8 kind,.int .i64 n,.int .u8 cmp,.slice none 0 0],.slice A xs.len c] w (MkP C (C.put s from_ to_ at_ kind n cmp xs) u w):=
 fput_any h C.r1 C.r2 from_ to_ at_ kind n cmp hok _ rfl xs S Z A c hS hz hx (by obtain⟨_,_,h3⟩:=hr;omega)
theorem fput_0 (h:C.At s u w) (from_ to_ at_ kind n cmp:Int) (hok:in64 from_∧in64 to_∧in8 kind∧in64 n∧in8 cmp∧in64 at_) (hr:Room 1 s):
  Calls Tryz.prog 123 #[.pointer (some ⟨C.b,0,none⟩),.int .i64 from_,.int .i64 to_,.int .i64 at_,.agg #[.int .u8 kind,.int .i64 n,.int .u8 cmp,.slice none 0 0],.slice none 0 0] w (MkP C (C.put s from_ to_ at_ kind n cmp .nil) u w):=
 fput_c h from_ to_ at_ kind n cmp hok .nil (fun _=>False) False none 0 (fun _ h=>h.elim) trivial ⟨Nat.le_refl _,by decide,fun h=>absurd h (Nat.lt_irrefl _)⟩ hr
theorem fnode_c (h:C.At s u w) (hr:Room 1 s):Calls Tryz.prog 124 #[.pointer (some ⟨C.b,0,none⟩)] w fun e w'=>e= .returned (.int .i64 s.nodes)∧C.At s.node u w'∧Made C.b u u w w':=
 node_any h hr.1 (by obtain⟨h1,h2,_⟩:=hr;omega)
end
theorem in0_8 (k:Int) (h0:0≤k) (h1:k≤255):in8 k:=⟨h0,by omega⟩
theorem in0_64 (k:Int) (h0:0≤k) (h1:k≤255):in64 k:=⟨by omega,by omega⟩
structure Boxes (C:FgC) (K:Nat→Prop) (p q:Nat) (at_:Int) (w:World):Prop where
 kp:K p
 kq:K q
 ptr:w.cell? ⟨p,0,none⟩=some (.pointer (some ⟨C.b,0,none⟩))
 atc:w.cell? ⟨q,3,none⟩=some (.int .i64 at_)
 in_:in64 at_
section
variable {C:FgC} {K:Nat→Prop} {p q:Nat} {at_:Int} {w:World}
theorem way_1_call {b:Nat} {W:World} {p q:Nat} {at_ f y n:Int} {R:Ending→World→Prop} (c0:W.cell? ⟨p,0,none⟩=some (.pointer (some ⟨b,0,none⟩))) (c3:W.cell? ⟨q,3,none⟩=some (.int .i64 at_))
  (hc:Calls Tryz.prog 123 #[.pointer (some ⟨b,0,none⟩),.int .i64 f,.int .i64 y,.int .i64 at_,.agg #[.int .u8 1,.int .i64 0,.int .u8 0,.slice none 0 0],.slice none 0 0] W R) (hR:∀e w',R e w'→e= .returned (.tuple #[])):
  Calls Tryz.prog 242 #[.int .i64 f,.int .i64 y,.int .i64 n,.pointer (some ⟨p,0,none⟩),.pointer (some ⟨q,0,none⟩)] W R:=by
 have HC:=Lib.hid hc
 have HR:=Lib.hid hR
 clear hc hR
 go_enter Tryz.func242,Tryz.ntmps242
 go_wp2_with fail
 refine HC.out.mono ?_
 intro e w2 h2
 obtain rfl:=HR.out _ _ h2
 have H2:=Lib.hid h2
 clear h2
 go_wp2_with fail
 go_end0
 exact H2.out
theorem way_1 (hb:Boxes C K p q at_ w) (hent:Enters Tryz.prog 242):WayP C K (.func (.func 242) #[] #[.pointer (some ⟨p,0,none⟩),.pointer (some ⟨q,0,none⟩)]) (fun f y n s=>C.put s f y at_ 1 0 0 .nil) 1 w:=
 ⟨_,_,rfl,hent,fun f y n s=>grow_put C s _ _ _ _ _ _ _,fun W s u hs hl h ho hr f y n hf hy hn=>
  way_1_call (((hs ⟨p,0,none⟩ hb.kp).1).trans hb.ptr) (((hs ⟨q,3,none⟩ hb.kq).1).trans hb.atc) (fput_0 h f y at_ 1 0 0 ⟨hf,hy,in0_8 1 (by decide) (by decide),in0_64 0 (by decide) (by decide),in0_8 0 (by decide) (by decide),hb.in_⟩ hr) fun e w' h=>h.choose_spec.1⟩
theorem way_2_call {b:Nat} {W:World} {p q:Nat} {at_ f y n:Int} {R:Ending→World→Prop} (c0:W.cell? ⟨p,0,none⟩=some (.pointer (some ⟨b,0,none⟩))) (c3:W.cell? ⟨q,3,none⟩=some (.int .i64 at_))
  (hc:Calls Tryz.prog 123 #[.pointer (some ⟨b,0,none⟩),.int .i64 f,.int .i64 n,.int .i64 at_,.agg #[.int .u8 1,.int .i64 0,.int .u8 0,.slice none 0 0],.slice none 0 0] W R) (hR:∀e w',R e w'→e= .returned (.tuple #[])):
  Calls Tryz.prog 243 #[.int .i64 f,.int .i64 y,.int .i64 n,.pointer (some ⟨p,0,none⟩),.pointer (some ⟨q,0,none⟩)] W R:=by
 have HC:=Lib.hid hc
 have HR:=Lib.hid hR
 clear hc hR
 go_enter Tryz.func243,Tryz.ntmps243
 go_wp2_with fail
 refine HC.out.mono ?_
 intro e w2 h2
 obtain rfl:=HR.out _ _ h2
 have H2:=Lib.hid h2
 clear h2
 go_wp2_with fail
 go_end0
 exact H2.out
theorem way_2 (hb:Boxes C K p q at_ w) (hent:Enters Tryz.prog 243):WayP C K (.func (.func 243) #[] #[.pointer (some ⟨p,0,none⟩),.pointer (some ⟨q,0,none⟩)]) (fun f y n s=>C.put s f n at_ 1 0 0 .nil) 1 w:=
 ⟨_,_,rfl,hent,fun f y n s=>grow_put C s _ _ _ _ _ _ _,fun W s u hs hl h ho hr f y n hf hy hn=>
  way_2_call (((hs ⟨p,0,none⟩ hb.kp).1).trans hb.ptr) (((hs ⟨q,3,none⟩ hb.kq).1).trans hb.atc) (fput_0 h f n at_ 1 0 0 ⟨hf,hn,in0_8 1 (by decide) (by decide),in0_64 0 (by decide) (by decide),in0_8 0 (by decide) (by decide),hb.in_⟩ hr) fun e w' h=>h.choose_spec.1⟩
theorem way_3 {x:Nat} {v0:Value} {c0:Way} {N:Nat} (hx:K x) (cx:w.cell? ⟨x,0,none⟩=some v0) (hv:WayP C K v0 c0 N w) (hent:Enters Tryz.prog 244):WayP C K (.func (.func 244) #[] #[.pointer (some ⟨x,0,none⟩)]) (fun f y n s=>c0 f n y s) N w:=by
 obtain⟨g,caps,rfl,hg,hgr,hcall⟩:=hv
 refine⟨_,_,rfl,hent,fun f y n s=>hgr f n y s,fun W s u hs hl h ho hr f y n hf hy hn=>?_⟩
 have c1:=((hs ⟨x,0,none⟩ hx).1).trans cx
 have HC:=Lib.hid (hcall W s u hs hl h ho hr f n y hf hn hy)
 clear hs h ho hr hf hy hn hcall hgr hent cx
 show Calls Tryz.prog 244 #[.int .i64 f,.int .i64 y,.int .i64 n,.pointer (some ⟨x,0,none⟩)] W _
 unfold Enters at hg
 go_enter Tryz.func244,Tryz.ntmps244
 go_wp2_with fail
 refine HC.out.mono ?_
 rintro _ w2 ⟨u',rfl,h2⟩
 have H2:=Lib.hid h2
 clear h2
 go_wp2_with fail
 go_end0
 exact⟨_,rfl,H2.out⟩
theorem way_4_call {b g0 g1 x z:Nat} {caps0 caps1:Array Value} {k nd:Int} {W:World} {f y n:Int} {N1 N2:World→Prop} {R:Ending→World→Prop} (hg0:Enters Tryz.prog g0) (hg1:Enters Tryz.prog g1)
  (c0:W.cell? ⟨p,0,none⟩=some (.pointer (some ⟨b,0,none⟩))) (hn:Calls Tryz.prog 124 #[.pointer (some ⟨b,0,none⟩)] W fun e w'=>e= .returned (.int .i64 nd)∧N1 w')
  (h1:∀w',N1 w'→w'.cell? ⟨q,0,none⟩=some (.int .u8 k)∧w'.cell? ⟨x,0,none⟩=some (.func (.func g0) #[] caps0)∧Calls Tryz.prog g0 (#[.int .i64 f,.int .i64 (if k=10 then nd else y),.int .i64 (if k=10 then n else nd)]++caps0) w' fun e w'=>e= .returned (.tuple #[])∧N2 w')
  (h2:∀w',N2 w'→w'.cell? ⟨z,0,none⟩=some (.func (.func g1) #[] caps1)∧Calls Tryz.prog g1 (#[.int .i64 nd,.int .i64 y,.int .i64 n]++caps1) w' R) (hR:∀e w',R e w'→e= .returned (.tuple #[])):
  Calls Tryz.prog 245 #[.int .i64 f,.int .i64 y,.int .i64 n,.pointer (some ⟨p,0,none⟩),.pointer (some ⟨q,0,none⟩),.pointer (some ⟨x,0,none⟩),.pointer (some ⟨z,0,none⟩)] W R:=by
 unfold Enters at hg0 hg1
 have HN:=Lib.hid hn
 have H1:=Lib.hid h1
 have H2:=Lib.hid h2
 have HR:=Lib.hid hR
 clear hn h1 h2 hR
 by_cases hk:k=10
 case' pos=>
  simp only[if_pos hk]at H1
  have k1:(k==10)=true:=by simpa using hk
 case' neg=>
  simp only[if_neg hk]at H1
  have k1:(k==10)=false:=by simpa using hk
 all_goals
  clear hk
  go_enter Tryz.func245,Tryz.ntmps245
  go_wp2_with fail
  refine HN.out.mono ?_
  rintro _ w2 ⟨rfl,n1⟩
  obtain⟨d1,d2,hc⟩:=H1.out _ n1
  have HC:=Lib.hid hc
  clear hc n1
  go_wp2_with fail
  refine HC.out.mono ?_
  rintro _ w3 ⟨rfl,n2⟩
  obtain⟨d3,hc⟩:=H2.out _ n2
  have HC2:=Lib.hid hc
  clear hc n2 d1 d2
  go_wp2_with fail
  refine HC2.out.mono ?_
  intro e w4 h4
  obtain rfl:=HR.out _ _ h4
  have H4:=Lib.hid h4
  clear h4
  go_wp2_with fail
  go_end0
  exact H4.out
theorem way_4 {x z:Nat} {v0 v1:Value} {c0 c1:Way} {N M:Nat} {k:Int} (hb:Boxes C K p q at_ w) (hq:w.cell? ⟨q,0,none⟩=some (.int .u8 k)) (hKl:∀x,K x→x < w.heap.size) (hx:K x) (cx:w.cell? ⟨x,0,none⟩=some v0) (hv:WayP C K v0 c0 N w) (hz:K z) (cz:w.cell? ⟨z,0,none⟩=some v1) (hv1:WayP C K v1 c1 M w) (hent:Enters Tryz.prog 245):
  WayP C K (.func (.func 245) #[] #[.pointer (some ⟨p,0,none⟩),.pointer (some ⟨q,0,none⟩),.pointer (some ⟨x,0,none⟩),.pointer (some ⟨z,0,none⟩)])
   (fun f y n s=>c1 s.nodes y n (c0 f (if k=10 then s.nodes else y) (if k=10 then n else s.nodes) s.node)) (1+N+M) w:=by
 obtain⟨g0,caps0,rfl,hg0,hgr0,hcall0⟩:=hv
 obtain⟨g1,caps1,rfl,hg1,hgr1,hcall1⟩:=hv1
 refine⟨_,_,rfl,hent,fun f y n s=>((grow_node s).trans (hgr0 _ _ _ _)).trans (hgr1 _ _ _ _),fun W s u hs hl h ho hr f y n hf hy hn=>?_⟩
 have hKW:∀x,K x→x < W.heap.size:=fun x hx=>Nat.lt_of_lt_of_le (hKl x hx) hl
 have hr1:Room (N+M) s.node:=Room.after (N:=1) (by rw[←Nat.add_assoc];exact hr) (grow_node s)
 have hi:=hr.in_
 have hy':in64 (if k=10 then s.nodes else y):=by split<;>assumption
 have hn':in64 (if k=10 then n else s.nodes):=by split<;>assumption
 refine way_4_call (k:=k) (caps0:=caps0) (caps1:=caps1) (N1:=fun w'=>C.At s.node u w'∧Made C.b u u W w') (N2:=fun w'=>∃u',C.At (c0 f (if k=10 then s.nodes else y) (if k=10 then n else s.nodes) s.node) u' w'∧Made C.b u u' W w') hg0 hg1 (((hs ⟨p,0,none⟩ hb.kp).1).trans hb.ptr) (fnode_c h (hr.less (by omega))) (fun w' hw'=>?_) (fun w' hw'=>?_) fun e w' h=>h.choose_spec.1
 ·obtain⟨hat,hm⟩:=hw'
  obtain⟨s1,o1⟩:=off_step hm ho hKW
  have hs1:=hs.trans s1
  refine⟨((hs1 ⟨q,0,none⟩ hb.kq).1).trans hq,((hs1 ⟨x,0,none⟩ hx).1).trans cx,(hcall0 w' _ u hs1 (Nat.le_trans hl hm.fr.size) hat o1 (hr1.less (by omega)) f _ _ hf hy' hn').mono ?_⟩
  rintro e w2 ⟨u',rfl,hat2,hm2⟩
  exact⟨rfl,u',hat2,hm.trans hm2⟩
 ·obtain⟨u1,hat,hm⟩:=hw'
  obtain⟨s1,o1⟩:=off_step hm ho hKW
  have hs1:=hs.trans s1
  refine⟨((hs1 ⟨z,0,none⟩ hz).1).trans cz,(hcall1 w' _ u1 hs1 (Nat.le_trans hl hm.fr.size) hat o1 (hr1.after (hgr0 _ _ _ _)) _ y n hi hy hn).mono ?_⟩
  rintro e w2 ⟨u',rfl,hat2,hm2⟩
  exact⟨u',rfl,hat2,hm.trans hm2⟩
end
theorem opp_at (k:Int) (h1:3≤k) (h2:k≤8) (w:World):(Instr.index 287 (.agg #[.int .u8 0,.int .u8 0,.int .u8 0,.int .u8 6,.int .u8 5,.int .u8 4,.int .u8 3,.int .u8 8,.int .u8 7]) (.int .u8 k)).run Tryz.prog w= .ok (.int .u8 (oppK k)) w:=by
 rcases(show k=3∨k=4∨k=5∨k=6∨k=7∨k=8 from by omega)with rfl|rfl|rfl|rfl|rfl|rfl<;>kernel_rfl
theorem fopp_any (k:Int) (h1:3≤k) (h2:k≤8) (w:World):Calls Tryz.prog 143 #[.int .u8 k] w fun e w'=>e= .returned (.int .u8 (oppK k))∧w=w':=by
 have hix:=opp_at k h1 h2
 obtain⟨ko,hko⟩:∃y,y=oppK k:=⟨_,rfl⟩
 rw[←hko]at hix ⊢
 clear h1 h2 hko
 go_enter Tryz.func143,Tryz.ntmps143
 go_wp2_with fail
 go_ret
 exact⟨rfl,rfl⟩
section
variable {C:FgC} {K:Nat→Prop} {p q:Nat} {at_:Int} {w:World}
def Way5 (b p q:Nat) (k at_:Int) (sl:Value) (W:World):Prop:=W.cell? ⟨p,0,none⟩=some (.pointer (some ⟨b,0,none⟩))∧W.cell? ⟨q,0,none⟩=some (.int .u8 k)∧W.cell? ⟨q,1,none⟩=some sl∧W.cell? ⟨q,3,none⟩=some (.int .i64 at_)
theorem way_5_call {b p q:Nat} {k at_ f y n:Int} {W:World} {sl:Value} {N1:World→Prop} {R:Ending→World→Prop} (h1:3≤k) (h2:k≤8) (hw:Way5 b p q k at_ sl W)
  (hc:Calls Tryz.prog 123 #[.pointer (some ⟨b,0,none⟩),.int .i64 f,.int .i64 y,.int .i64 at_,.agg #[.int .u8 6,.int .i64 0,.int .u8 k,.slice none 0 0],sl] W fun e w'=>e= .returned (.tuple #[])∧N1 w')
  (hk:∀w',N1 w'→Way5 b p q k at_ sl w'∧∀w2,Fr NoT w' w2→Way5 b p q k at_ sl w2∧Calls Tryz.prog 123 #[.pointer (some ⟨b,0,none⟩),.int .i64 f,.int .i64 n,.int .i64 at_,.agg #[.int .u8 6,.int .i64 0,.int .u8 (oppK k),.slice none 0 0],sl] w2 R) (hR:∀e w',R e w'→e= .returned (.tuple #[])):
  Calls Tryz.prog 246 #[.int .i64 f,.int .i64 y,.int .i64 n,.pointer (some ⟨p,0,none⟩),.pointer (some ⟨q,0,none⟩)] W R:=by
 have HO:=Lib.hid (fopp_any k h1 h2)
 obtain⟨c0,q0,q1,q3⟩:=hw
 obtain⟨ko,hko⟩:∃y,y=oppK k:=⟨_,rfl⟩
 rw[←hko]at HO hk
 have HC:=Lib.hid hc
 have HK:=Lib.hid hk
 have HR:=Lib.hid hR
 clear hc hk hR h1 h2 hko
 go_enter Tryz.func246,Tryz.ntmps246
 go_wp2_with fail
 refine HC.out.mono ?_
 rintro _ w2 ⟨rfl,n1⟩
 obtain⟨hw2,hc2⟩:=HK.out _ n1
 have HC2:=Lib.hid hc2
 clear hc2 n1 HK HC c0 q0 q1 q3
 go_wp2_with fail
 refine wp_region_E (Way5 b p q k at_ sl) (fun i=>decide (i < 11)) (by kernel_rfl) (HC2.out _ ((Fr.refl NoT w2).drew)).1 (fun hHeld=>?_)
 refine wpE_pure 1 (v:=?_) rfl (by kernel_rfl) (fun _ _ _ h=>h) (by rfl) ?_ ?_;rotate_left
 ·intro wz;go_simp;try with_reducible rfl
 try simp only[Act.put,List.setIfInBounds_toArray,List.set_cons_zero,List.set_cons_succ]
 refine wpE_pure 2 (v:=?_) rfl (by kernel_rfl) (fun _ _ _ h=>h) (by rfl) ?_ ?_;rotate_left
 ·intro wz;go_simp;try with_reducible rfl
 try simp only[Act.put,List.setIfInBounds_toArray,List.set_cons_zero,List.set_cons_succ]
 refine wpE_pure 3 (v:=?_) rfl (by kernel_rfl) (fun _ _ _ h=>h) (by rfl) ?_ ?_;rotate_left
 ·intro wz;go_simp;try with_reducible rfl
 try simp only[Act.put,List.setIfInBounds_toArray,List.set_cons_zero,List.set_cons_succ]
 refine wpE_pure 5 (v:=?_) rfl (by kernel_rfl) (fun _ _ _ h=>h) (by rfl) ?_ ?_;rotate_left
 ·intro wz;go_simp;try with_reducible rfl
 try simp only[Act.put,List.setIfInBounds_toArray,List.set_cons_zero,List.set_cons_succ]
 refine wpE_pure 9 (v:=?_) rfl (by kernel_rfl) (fun _ _ _ h=>h) (by rfl) ?_ ?_;rotate_left
 ·intro wz;go_simp;try with_reducible rfl
 try simp only[Act.put,List.setIfInBounds_toArray,List.set_cons_zero,List.set_cons_succ]
 refine wpE_take 0 (v:=?_) rfl (by kernel_rfl) (fun _ _ _ h=>h) hHeld (by rfl) ?_ ?_;rotate_left
 ·intro wz hSz;(try dsimp only[Way5]at hSz);go_simp;try with_reducible rfl
 try simp only[Act.put,List.setIfInBounds_toArray,List.set_cons_zero,List.set_cons_succ]
 refine wpE_take 4 (v:=?_) rfl (by kernel_rfl) (fun _ _ _ h=>h) hHeld (by rfl) ?_ ?_;rotate_left
 ·intro wz hSz;(try dsimp only[Way5]at hSz);go_simp;try with_reducible rfl
 try simp only[Act.put,List.setIfInBounds_toArray,List.set_cons_zero,List.set_cons_succ]
 refine wpE_take 6 (v:=?_) rfl (by kernel_rfl) (fun _ _ _ h=>h) hHeld (by rfl) ?_ ?_;rotate_left
 ·intro wz hSz;(try dsimp only[Way5]at hSz);go_simp;try with_reducible rfl
 try simp only[Act.put,List.setIfInBounds_toArray,List.set_cons_zero,List.set_cons_succ]
 refine wpE_take 10 (v:=?_) rfl (by kernel_rfl) (fun _ _ _ h=>h) hHeld (by rfl) ?_ ?_;rotate_left
 ·intro wz hSz;(try dsimp only[Way5]at hSz);go_simp;try with_reducible rfl
 try simp only[Act.put,List.setIfInBounds_toArray,List.set_cons_zero,List.set_cons_succ]
 refine wpE_next 7 rfl (by kernel_rfl) (fun KK hK=>?_)
 go_simp
 go_at_call 143
 refine(HO.out _).mono ?_
 rintro _ w3 ⟨rfl,rfl⟩
 try dsimp only
 refine hK _ _ (fun _ h=>h) ?_
 clear hK KK
 try simp only[Act.put,List.setIfInBounds_toArray,List.set_cons_zero,List.set_cons_succ]
 refine wpE_pure 8 (v:=?_) rfl (by kernel_rfl) (fun _ _ _ h=>h) (by rfl) ?_ ?_;rotate_left
 ·intro wz;go_simp;try with_reducible rfl
 try simp only[Act.put,List.setIfInBounds_toArray,List.set_cons_zero,List.set_cons_succ]
 refine wpE_next 11 rfl (by kernel_rfl) (fun KK hK=>?_)
 go_simp
 go_at_call 123
 refine((HC2.out _ ((Fr.refl NoT w2).drew)).2).mono ?_
 intro e w4 h4
 obtain rfl:=HR.out _ _ h4
 have H4:=Lib.hid h4
 clear h4
 try dsimp only
 refine hK _ _ (fun h=>absurd h (by decide)) ?_
 clear hK KK
 try simp only[Act.put,List.setIfInBounds_toArray,List.set_cons_zero,List.set_cons_succ]
 refine wpE_done (by kernel_rfl) ?_
 go_wp2_with fail
 go_end0
 exact H4.out
theorem opp_in (k:Int) (h1:3≤k) (h2:k≤8):in8 (oppK k):=by
 rcases(show k=3∨k=4∨k=5∨k=6∨k=7∨k=8 from by omega)with rfl|rfl|rfl|rfl|rfl|rfl<;>exact in0_8 _ (by decide) (by decide)
theorem way_5 {k:Int} {args:Exs} {S:Nat→Prop} {Z:Prop} {A:Option Addr} {c:Nat} (hb:Boxes C K p q at_ w) (hq:w.cell? ⟨q,0,none⟩=some (.int .u8 k)) (ha:w.cell? ⟨q,1,none⟩=some (.slice A args.len c)) (h1:3≤k) (h2:k≤8) (hKl:∀x,K x→x < w.heap.size) (hS:∀x,S x→K x∧x < C.B) (hz:szQ args) (hx:SlR (fun b o=>ExR w S Z args b o) args.len 64 A c) (hent:Enters Tryz.prog 246):
  WayP C K (.func (.func 246) #[] #[.pointer (some ⟨p,0,none⟩),.pointer (some ⟨q,0,none⟩)]) (fun f y n s=>C.put (C.put s f y at_ 6 0 k args) f n at_ 6 0 (oppK k) args) 2 w:=by
 refine⟨_,_,rfl,hent,fun f y n s=>(grow_put C s _ _ _ _ _ _ _).trans (grow_put C _ _ _ _ _ _ _ _),fun W s u hs hl h ho hr f y n hf hy hn=>?_⟩
 have hKW:∀x,K x→x < W.heap.size:=fun x hx=>Nat.lt_of_lt_of_le (hKl x hx) hl
 have hk8:in8 k:=in0_8 k (by omega) (by omega)
 have hx1:∀W',SameS K w W'→SlR (fun b o=>ExR W' S Z args b o) args.len 64 A c:=fun W' h=>hx.imp fun _ _ hx=>ExR.keep (h.mono fun b hb=>(hS b hb).1) hx
 have hw1:∀W',SameS K w W'→Way5 C.b p q k at_ (.slice A args.len c) W':=fun W' h=>⟨((h ⟨p,0,none⟩ hb.kp).1).trans hb.ptr,((h ⟨q,0,none⟩ hb.kq).1).trans hq,((h ⟨q,1,none⟩ hb.kq).1).trans ha,((h ⟨q,3,none⟩ hb.kq).1).trans hb.atc⟩
 refine way_5_call (N1:=fun w'=>∃u',C.At (C.put s f y at_ 6 0 k args) u' w'∧Made C.b u u' W w') h1 h2 (hw1 _ hs) ((fput_c h f y at_ 6 0 k ⟨hf,hy,in0_8 6 (by decide) (by decide),in0_64 0 (by decide) (by decide),hk8,hb.in_⟩ args S Z A c (fun x hx=>(hS x hx).2) hz (hx1 _ hs) (hr.less (by omega))).mono ?_) (fun w' hw'=>?_) fun e w' h=>h.choose_spec.1
 ·rintro e w2 ⟨u',rfl,hat2,hm2⟩
  exact⟨rfl,u',hat2,hm2⟩
 ·obtain⟨u1,hat,hm⟩:=hw'
  obtain⟨s1,o1⟩:=off_step hm ho hKW
  have hs1:=hs.trans s1
  refine⟨hw1 _ hs1,fun w2 hf2=>?_⟩
  have hs2:SameS K w w2:=hs1.trans (hf2.same fun x hx=>⟨Nat.lt_of_lt_of_le (hKW x hx) hm.fr.size,id⟩)
  refine⟨hw1 _ hs2,(fput_c (hat.fr0 hf2) f n at_ 6 0 (oppK k) ⟨hf,hn,in0_8 6 (by decide) (by decide),in0_64 0 (by decide) (by decide),opp_in k h1 h2,hb.in_⟩ args S Z A c (fun x hx=>(hS x hx).2) hz (hx1 _ hs2) (Room.after (N:=1) hr (grow_put C s _ _ _ _ _ _ _))).mono ?_⟩
  rintro e w3 ⟨u',rfl,hat3,hm3⟩
  exact⟨u',rfl,hat3,hm.trans ((Made.of hf2).trans hm3)⟩
end
end Go.Proofs.YtobegfbdedgmpaaGreatDoor

namespace Go.Proofs.YtobegfbdedgmpaaGreatDoor
open Go.RowKit Go.Shelf

def szN:Cds→Nat
 | .nil =>0
 | .cons _ _ of_ _ r=>2+szN of_+szN r
def wfD (k:Int) (args:Exs) (of_:Cds):Prop:=szQ args∧1≤k∧k≤11∧(k=9→1≤of_.len)∧(k=10∨k=11→2≤of_.len)
def wfC:Cds→Prop
 | .nil =>True
 | .cons k args of_ _ r=>wfD k args of_∧wfC of_∧wfC r
def CondP (C:FgC) (c:Way) (N:Nat) (W:World) (e:Ending) (w':World):Prop:=∃val,e= .returned val∧Fr NoT W w'∧WayP C (FgK C.B W.heap.size w'.heap.size) val c N w'
def CondC (C:FgC) (k:Int) (args:Exs) (of_:Cds) (at_:Int):Prop:=
 ∀(W:World) (S:Nat→Prop) (Z:Prop) (A A2:Option Addr) (c c2:Nat),C.B≤W.heap.size→(∀x,S x→x < C.B)→in64 at_→SlR (fun b o=>ExR W S Z args b o) args.len 64 A c→SlR (fun b o=>CdR W S Z of_ b o) of_.len 64 A2 c2→
  Calls Tryz.prog 201 #[.pointer (some ⟨C.b,0,none⟩),.agg #[.int .u8 k,.slice A args.len c,.slice A2 of_.len c2,.int .i64 at_]] W (CondP C (wayC C.sc C.ar k args (waysC C.sc C.ar of_) at_) (2+szN of_) W)
theorem bk_two0 (w:World) (c0 c1:Array Value) (t0 t1:TypeId):Bk ((w.alloc (.cells c0 t0)).alloc (.cells c1 t1)) w.heap.size t0 c0∧Bk ((w.alloc (.cells c0 t0)).alloc (.cells c1 t1)) (w.heap.size+1) t1 c1:=
 ⟨(Bk.new _ _ _).alloc _,Bk.new_at _ _ _ (by simp)⟩
structure Two (C:FgC) (k:Int) (A A2:Option Addr) (l c l2 c2:Nat) (at_:Int) (W w:World):Prop where
 fr:Fr NoT W w
 bp:Bk w W.heap.size 130 #[.pointer (some ⟨C.b,0,none⟩)]
 bq:Bk w (W.heap.size+1) 199 #[.int .u8 k,.slice A l c,.slice A2 l2 c2,.int .i64 at_]
section
variable {C:FgC} {k:Int} {A A2:Option Addr} {l c l2 c2:Nat} {at_:Int} {W w w':World}
theorem Two.next (h:Two C k A A2 l c l2 c2 at_ W w) (hf:Fr NoT w w'):Two C k A A2 l c l2 c2 at_ W w':=⟨h.fr.trans hf,h.bp.fr0 hf,h.bq.fr0 hf⟩
theorem Two.boxes (h:Two C k A A2 l c l2 c2 at_ W w) (hin:in64 at_):Boxes C (FgK C.B W.heap.size w.heap.size) W.heap.size (W.heap.size+1) at_ w:=
 ⟨.inr ⟨Nat.le_refl _,h.bp.lt⟩,.inr ⟨Nat.le_succ _,h.bq.lt⟩,h.bp.cell 0,h.bq.cell 3,hin⟩
theorem inK_lt (h:Two C k A A2 l c l2 c2 at_ W w) (hB:C.B≤W.heap.size):∀x,FgK C.B W.heap.size w.heap.size x→x < w.heap.size:=by
 have h1:=h.bp.lt
 rintro x (hx|hx)
 ·omega
 ·exact hx.2
theorem cond_more {c c':Way} {N M:Nat} {val:Value} {K:Nat→Prop} (h:WayP C K val c N w) (e:c=c') (hn:N≤M):WayP C K val c' M w:=e▸h.more (fun _ h=>h) hn
end
def Cnd7 (p q b o:Nat) (P A2:Option Addr) (l2 c2:Nat) (v0 v1 v2 v3:Value) (W:World):Prop:=W.cell? ⟨p,0,none⟩=some (.pointer P)∧W.cell? ⟨q,2,none⟩=some (.slice A2 l2 c2)∧W.cell? ⟨b,o,none⟩=some v0∧W.cell? ⟨b,o+1,none⟩=some v1∧W.cell? ⟨b,o+2,none⟩=some v2∧W.cell? ⟨b,o+3,none⟩=some v3
theorem Cnd7.fr {p q b o l2 c2:Nat} {P A2:Option Addr} {v0 v1 v2 v3:Value} {W w':World} (h:Cnd7 p q b o P A2 l2 c2 v0 v1 v2 v3 W) (hf:Fr NoT W w') (hp:p < W.heap.size) (hq:q < W.heap.size) (hb:b < W.heap.size):Cnd7 p q b o P A2 l2 c2 v0 v1 v2 v3 w':=
 ⟨(hf.cell hp id).trans h.1,(hf.cell hq id).trans h.2.1,(hf.cell hb id).trans h.2.2.1,(hf.cell hb id).trans h.2.2.2.1,(hf.cell hb id).trans h.2.2.2.2.1,(hf.cell hb id).trans h.2.2.2.2.2⟩
theorem cond_leaf (C:FgC) (k:Int) (args:Exs) (of_:Cds) (at_:Int) (hz:szQ args) (h1:1≤k) (h2:k≤8):CondC C k args of_ at_:=by
 intro W S Z A A2 c c2 hB hS hin hx hx2
 obtain⟨l,hl⟩:∃y,y=args.len:=⟨_,rfl⟩
 obtain⟨l2,hl2⟩:∃y,y=of_.len:=⟨_,rfl⟩
 have HX:=Lib.hid (And.intro hB (And.intro hS (And.intro hin hx)))
 have HLL:=Lib.hid hl
 obtain⟨b,hb⟩:∃b,b=C.b:=⟨_,rfl⟩
 have hT:∀w',w'=(W.alloc (.cells #[.pointer (some ⟨b,0,none⟩)] 130)).alloc (.cells #[.int .u8 k,.slice A l c,.slice A2 l2 c2,.int .i64 at_] 199)→Two C k A A2 l c l2 c2 at_ W w':=fun w' e=>by
  rw[hb]at e
  have kk:=bk_two0 W #[.pointer (some ⟨C.b,0,none⟩)] #[.int .u8 k,.slice A l c,.slice A2 l2 c2,.int .i64 at_] 130 199
  rw[←e]at kk
  exact⟨by rw[e];exact((Fr.refl _ _).alloc _).alloc _,kk.1,kk.2⟩
 have HT:=Lib.hid hT
 have HB:=Lib.hid hb
 rw[←hl,←hl2,←hb]
 clear hT hB hS hin hx hx2 hl hl2 hb
 rcases(show k=1∨k=2∨(3≤k∧k≤8)from by omega)with rfl|rfl|⟨h3,_⟩
 ·go_enter Tryz.func201,Tryz.ntmps201
  go_wp2_with fail
  go_ret
  have hT:=HT.out _ rfl
  exact⟨_,rfl,hT.fr,cond_more (way_1 (hT.boxes HX.out.2.2.1) (enters_of Tryz.func242 (by kernel_rfl) rfl)) (by funext f y n s;rfl) (by omega)⟩
 ·go_enter Tryz.func201,Tryz.ntmps201
  go_wp2_with fail
  go_ret
  have hT:=HT.out _ rfl
  exact⟨_,rfl,hT.fr,cond_more (way_2 (hT.boxes HX.out.2.2.1) (enters_of Tryz.func243 (by kernel_rfl) rfl)) (by funext f y n s;rfl) (by omega)⟩
 ·have k1:(k==1)=false:=by simp;omega
  have k2:(k==2)=false:=by simp;omega
  have k9:(k==9)=false:=by simp;omega
  have k10:(k==10)=false:=by simp;omega
  have k11:(k==11)=false:=by simp;omega
  have HK:=Lib.hid (And.intro h3 h2)
  clear h1 h2 h3
  go_enter Tryz.func201,Tryz.ntmps201
  go_wp2_with fail
  go_ret
  have hT:=HT.out _ rfl
  obtain⟨h3,h2⟩:=HK.out
  obtain⟨hB,hS,hin,hx⟩:=HX.out
  have hax:=(hT.bq.cell 1).trans (show _=some (.slice A args.len c)from by simp[HLL.out])
  exact⟨_,rfl,hT.fr,cond_more (way_5 (S:=S) (Z:=Z) (hT.boxes hin) (hT.bq.cell 0) hax h3 h2 (inK_lt hT hB) (fun x hx=>⟨.inl (hS x hx),hS x hx⟩) hz (hx.imp fun _ _ hx=>ExR.keep (hT.fr.same fun b hb=>⟨Nat.lt_of_lt_of_le (hS b hb) hB,id⟩) hx) (enters_of Tryz.func246 (by kernel_rfl) rfl)) (by
   funext f y n s
   simp only[wayC,FgC.put]
   rw[if_neg (by omega),if_neg (by omega),if_neg (by omega),if_neg (by omega),if_neg (by omega)]) (by omega)⟩
def WayA (C:FgC) (w2:World) (g1 g2:Option Nat) (c:Way) (N:Nat) (v:Value) (w:World):Prop:=
 ∃lo hi,w2.heap.size≤lo∧lo≤hi∧hi≤w.heap.size∧(∀g,g1=some g→g < lo∨hi≤g)∧(∀g,g2=some g→g < lo∨hi≤g)∧WayP C (FgK C.B lo hi) v c N w
theorem inK_same {C:FgC} {lo hi:Nat} {w w':World} (hf:Fr NoT w w') (hB:C.B≤w.heap.size) (hi_:hi≤w.heap.size):SameS (FgK C.B lo hi) w w':=
 hf.same fun x hx=>⟨by rcases hx with h|h<;>omega,id⟩
theorem WayA.next {C:FgC} {w2 w w':World} {g1 g2:Option Nat} {c:Way} {N:Nat} {v:Value} (h:WayA C w2 g1 g2 c N v w) (hf:Fr NoT w w') (hB:C.B≤w.heap.size):WayA C w2 g1 g2 c N v w':=by
 obtain⟨lo,hi,h1,h2,h3,h4,h5,h6⟩:=h
 exact⟨lo,hi,h1,h2,Nat.le_trans h3 hf.size,h4,h5,h6.later (inK_same hf hB h3) hf.size⟩
structure CI (C:FgC) (w2:World) (c0 c1:Way) (N0 N1:Nat) (o1 o2:Option Value) (g1 g2:Option Nat) (w:World):Prop where
 fr:Fr NoT w2 w
 v1:∀v,o1=some v→WayA C w2 g1 g2 c0 N0 v w
 v2:∀v,o2=some v→WayA C w2 g1 g2 c1 N1 v w
 b1:∀g,g1=some g→w2.heap.size≤g∧Bk w g 277 #[.nilFunc]
 b2:∀g,g2=some g→w2.heap.size≤g∧Bk w g 277 #[.nilFunc]
 ne:∀g h,g1=some g→g2=some h→g≠h
 ord:∀v,o2=some v→o1≠none
section
variable {C:FgC} {w2 w w':World} {c0 c1:Way} {N0 N1:Nat} {o1 o2:Option Value} {g1 g2:Option Nat} {v:Value}
theorem CI.zero (w2:World):CI C w2 c0 c1 N0 N1 none none none none w2:=⟨Fr.refl _ _,fun _ h=>(by cases h),fun _ h=>(by cases h),fun _ h=>(by cases h),fun _ h=>(by cases h),fun _ _ h=>(by cases h),fun _ h=>(by cases h)⟩
theorem CI.base (h:CI C w2 c0 c1 N0 N1 o1 o2 g1 g2 w) (hB:C.B≤w2.heap.size):C.B≤w.heap.size:=Nat.le_trans hB h.fr.size
theorem wayA_new (h:CI C w2 c0 c1 N0 N1 o1 o2 g1 g2 w) {c:Way} {N:Nat} (hc:WayP C (FgK C.B w.heap.size w'.heap.size) v c N w') (hf:Fr NoT w w'):WayA C w2 g1 g2 c N v w':=
 ⟨w.heap.size,w'.heap.size,h.fr.size,hf.size,Nat.le_refl _,fun g e=> .inl (h.b1 g e).2.lt,fun g e=> .inl (h.b2 g e).2.lt,hc⟩
theorem CI.call1 (h:CI C w2 c0 c1 N0 N1 none none g1 g2 w) (hB:C.B≤w2.heap.size) (hf:Fr NoT w w') (hc:WayP C (FgK C.B w.heap.size w'.heap.size) v c0 N0 w'):CI C w2 c0 c1 N0 N1 (some v) none g1 g2 w':=
 ⟨h.fr.trans hf,fun u e=>by cases e;exact wayA_new h hc hf,fun _ h=>(by cases h),fun g e=>⟨(h.b1 g e).1,(h.b1 g e).2.fr0 hf⟩,fun g e=>⟨(h.b2 g e).1,(h.b2 g e).2.fr0 hf⟩,h.ne,fun _ h=>(by cases h)⟩
theorem CI.call2 {u:Value} (h:CI C w2 c0 c1 N0 N1 (some u) none g1 g2 w) (hB:C.B≤w2.heap.size) (hf:Fr NoT w w') (hc:WayP C (FgK C.B w.heap.size w'.heap.size) v c1 N1 w'):CI C w2 c0 c1 N0 N1 (some u) (some v) g1 g2 w':=
 ⟨h.fr.trans hf,fun u e=>(h.v1 u e).next hf (h.base hB),fun u e=>by cases e;exact wayA_new h hc hf,fun g e=>⟨(h.b1 g e).1,(h.b1 g e).2.fr0 hf⟩,fun g e=>⟨(h.b2 g e).1,(h.b2 g e).2.fr0 hf⟩,h.ne,fun _ _ h=>(by cases h)⟩
theorem wayA_al (h:WayA C w2 none g2 c0 N0 v w) (hB:C.B≤w.heap.size) (o:Obj):WayA C w2 (some w.heap.size) g2 c0 N0 v (w.alloc o):=by
 obtain⟨lo,hi,h1,h2,h3,h4,h5,h6⟩:=h.next (w':=w.alloc o) ((Fr.refl _ _).alloc o) hB
 obtain⟨lo',hi',k1,k2,k3,k4,k5,k6⟩:=h
 exact⟨lo',hi',k1,k2,Nat.le_trans k3 (by simp),fun g e=>by cases e;exact .inr k3,k5,k6.later (inK_same ((Fr.refl _ _).alloc o) hB k3) (by simp)⟩
theorem wayA_al2 (h:WayA C w2 g1 none c0 N0 v w) (hB:C.B≤w.heap.size) (o:Obj):WayA C w2 g1 (some w.heap.size) c0 N0 v (w.alloc o):=by
 obtain⟨lo',hi',k1,k2,k3,k4,k5,k6⟩:=h
 exact⟨lo',hi',k1,k2,Nat.le_trans k3 (by simp),k4,fun g e=>by cases e;exact .inr k3,k6.later (inK_same ((Fr.refl _ _).alloc o) hB k3) (by simp)⟩
theorem CI.al1 (h:CI C w2 c0 c1 N0 N1 o1 o2 none g2 w) (hB:C.B≤w2.heap.size):CI C w2 c0 c1 N0 N1 o1 o2 (some w.heap.size) g2 (w.alloc (.cells #[.nilFunc] 277)):=
 ⟨h.fr.alloc _,fun u e=>wayA_al (h.v1 u e) (h.base hB) _,fun u e=>wayA_al (h.v2 u e) (h.base hB) _,fun g e=>by cases e;exact⟨h.fr.size,Bk.new _ _ _⟩,fun g e=>⟨(h.b2 g e).1,(h.b2 g e).2.alloc _⟩,fun g q e e2=>by cases e;exact Nat.ne_of_gt (h.b2 q e2).2.lt,h.ord⟩
theorem CI.al2 (h:CI C w2 c0 c1 N0 N1 o1 o2 g1 none w) (hB:C.B≤w2.heap.size):CI C w2 c0 c1 N0 N1 o1 o2 g1 (some w.heap.size) (w.alloc (.cells #[.nilFunc] 277)):=
 ⟨h.fr.alloc _,fun u e=>wayA_al2 (h.v1 u e) (h.base hB) _,fun u e=>wayA_al2 (h.v2 u e) (h.base hB) _,fun g e=>⟨(h.b1 g e).1,(h.b1 g e).2.alloc _⟩,fun g e=>by cases e;exact⟨h.fr.size,Bk.new _ _ _⟩,fun g q e e2=>by cases e2;exact Nat.ne_of_lt (h.b1 g e).2.lt,h.ord⟩
structure Held (C:FgC) (w2:World) (c:Way) (N g:Nat) (v:Value) (w':World):Prop where
 lo:w2.heap.size≤g
 hi:g < w'.heap.size
 cell:w'.cell? ⟨g,0,none⟩=some v
 way:WayP C (FgK C.B w2.heap.size w'.heap.size) v c N w'
theorem wayA_set {g:Nat} {u:Value} (h:WayA C w2 g1 g2 c0 N0 v w) (hg:g1=some g∨g2=some g) (hl:w2.heap.size≤g) (hB:C.B≤w2.heap.size):WayA C w2 g1 g2 c0 N0 v (w.setCell ⟨g,0,none⟩ u):=by
 obtain⟨lo,hi,h1,h2,h3,h4,h5,h6⟩:=h
 have hgo:g < lo∨hi≤g:=by rcases hg with e|e;exact h4 g e;exact h5 g e
 have hf:Fr (fun b=>b=g) w (w.setCell ⟨g,0,none⟩ u):=Fr.own (Fr.refl _ _) 0 u
 have hB2:C.B≤lo:=Nat.le_trans hB h1
 exact⟨lo,hi,h1,h2,Nat.le_trans h3 hf.size,h4,h5,h6.later (hf.same fun x hx=>⟨by rcases hx with h|h<;>omega,fun e=>by
  have e:x=g:=e
  rcases hx with h|h<;>omega⟩) hf.size⟩
theorem wayA_out (h:WayA C w2 g1 g2 c0 N0 v w):WayP C (FgK C.B w2.heap.size w.heap.size) v c0 N0 w:=by
 obtain⟨lo,hi,h1,h2,h3,h4,h5,h6⟩:=h
 exact h6.more (fun x hx=>by rcases hx with h|h;exact .inl h;exact .inr ⟨by omega,by omega⟩) (Nat.le_refl _)
theorem CI.fin1 {g:Nat} (h:CI C w2 c0 c1 N0 N1 (some v) none (some g) none w) (hB:C.B≤w2.heap.size):Fr NoT w2 (w.setCell ⟨g,0,none⟩ v)∧Held C w2 c0 N0 g v (w.setCell ⟨g,0,none⟩ v):=by
 obtain⟨hg,hb⟩:=h.b1 g rfl
 have hb2:=hb.set_ 0 v
 exact⟨h.fr.high hg 0 v,hg,hb2.lt,hb2.cell 0,wayA_out (wayA_set (h.v1 v rfl) (.inl rfl) hg hB)⟩
theorem CI.fin2 {g q:Nat} {u:Value} (h:CI C w2 c0 c1 N0 N1 (some v) (some u) (some g) (some q) w) (hB:C.B≤w2.heap.size):Fr NoT w2 ((w.setCell ⟨g,0,none⟩ v).setCell ⟨q,0,none⟩ u)∧Held C w2 c0 N0 g v ((w.setCell ⟨g,0,none⟩ v).setCell ⟨q,0,none⟩ u)∧Held C w2 c1 N1 q u ((w.setCell ⟨g,0,none⟩ v).setCell ⟨q,0,none⟩ u):=by
 obtain⟨hg,hb⟩:=h.b1 g rfl
 obtain⟨hq,kb⟩:=h.b2 q rfl
 have hne:=h.ne g q rfl rfl
 have hb2:=(hb.set_ 0 v).far (p:=⟨q,0,none⟩) hne u
 have kb2:=(kb.far (p:=⟨g,0,none⟩) (Ne.symm hne) v).set_ 0 u
 exact⟨(h.fr.high hg 0 v).high hq 0 u,⟨hg,hb2.lt,hb2.cell 0,wayA_out (wayA_set (wayA_set (h.v1 v rfl) (.inl rfl) hg hB) (.inr rfl) hq hB)⟩,⟨hq,kb2.lt,kb2.cell 0,wayA_out (wayA_set (wayA_set (h.v2 u rfl) (.inl rfl) hg hB) (.inr rfl) hq hB)⟩⟩
end
theorem Two.of {C:FgC} {k:Int} {A A2:Option Addr} {l c l2 c2:Nat} {at_:Int} {W w':World} (e:w'=(W.alloc (.cells #[.pointer (some ⟨C.b,0,none⟩)] 130)).alloc (.cells #[.int .u8 k,.slice A l c,.slice A2 l2 c2,.int .i64 at_] 199)):Two C k A A2 l c l2 c2 at_ W w':=by
 have kk:=bk_two0 W #[.pointer (some ⟨C.b,0,none⟩)] #[.int .u8 k,.slice A l c,.slice A2 l2 c2,.int .i64 at_] 130 199
 rw[←e]at kk
 exact⟨by rw[e];exact((Fr.refl _ _).alloc _).alloc _,kk.1,kk.2⟩
theorem cond_not (C:FgC) (args:Exs) (of_:Cds) (at_:Int) (k0:Int) (a0:Exs) (o0:Cds) (t0:Int) (r0:Cds) (ho:of_= .cons k0 a0 o0 t0 r0) (h0:CondC C k0 a0 o0 t0):CondC C 9 args of_ at_:=by
 intro W S Z A A2 c c2 hB hS hin hx hx2
 obtain⟨b2,o2,rfl,hat⟩:=hx2.2.2 (by rw[ho];simp[Cds.len])
 rw[ho]at hat
 obtain⟨⟨hbS,_,r1,r2,e0,e3⟩,⟨A3,c3,e1,s1⟩,⟨A4,c4,e2,s2⟩,_⟩:=hat
 obtain⟨l,hl⟩:∃y,y=args.len:=⟨_,rfl⟩
 obtain⟨l2,hl2⟩:∃y,y=of_.len:=⟨_,rfl⟩
 have hl20:0 < l2:=by rw[hl2,ho];simp[Cds.len]
 have hl2m:l2≤9223372036854775807:=by rw[hl2];exact Nat.le_trans hx2.1 hx2.2.1.1
 obtain⟨l3,hl3⟩:∃y,y=a0.len:=⟨_,rfl⟩
 obtain⟨l4,hl4⟩:∃y,y=o0.len:=⟨_,rfl⟩
 obtain⟨w2,hw2⟩:∃y,y=(W.alloc (.cells #[.pointer (some ⟨C.b,0,none⟩)] 130)).alloc (.cells #[.int .u8 9,.slice A l c,.slice (some ⟨b2,o2,none⟩) l2 c2,.int .i64 at_] 199):=⟨_,rfl⟩
 have hT:=Two.of hw2
 have hW2:C.B≤w2.heap.size:=Nat.le_trans hB hT.fr.size
 have hbW:b2 < W.heap.size:=Nat.lt_of_lt_of_le (hS _ hbS) hB
 have hb2:b2 < w2.heap.size:=Nat.lt_of_lt_of_le hbW hT.fr.size
 have hsm:SameS S W w2.drew:=(hT.fr.drew).same fun b hb=>⟨Nat.lt_of_lt_of_le (hS b hb) hB,id⟩
 have hcall:∀w',Fr NoT w2.drew w'→_:=fun w' hf=>h0 w' S Z A3 A4 c3 c4 (Nat.le_trans hW2 hf.size) hS r2 (s1.imp fun _ _ hx=>ExR.keep (hsm.trans (hf.same fun b hb=>⟨Nat.lt_of_lt_of_le (Nat.lt_of_lt_of_le (hS b hb) hB) hT.fr.size,id⟩)) hx) (s2.imp fun _ _ hx=>CdR.keep (hsm.trans (hf.same fun b hb=>⟨Nat.lt_of_lt_of_le (Nat.lt_of_lt_of_le (hS b hb) hB) hT.fr.size,id⟩)) hx)
 have hs2:Cnd7 W.heap.size (W.heap.size+1) b2 o2 (some ⟨C.b,0,none⟩) (some ⟨b2,o2,none⟩) l2 c2 (.int .u8 k0) (.slice A3 l3 c3) (.slice A4 l4 c4) (.int .i64 t0) w2:=
  ⟨hT.bp.cell 0,hT.bq.cell 2,(hT.fr.cell hbW id).trans e0,(hT.fr.cell hbW id).trans (by rw[hl3];exact e1),(hT.fr.cell hbW id).trans (by rw[hl4];exact e2),(hT.fr.cell hbW id).trans e3⟩
 have HS2:=Lib.hid hs2
 obtain⟨b,hb⟩:∃b,b=C.b:=⟨_,rfl⟩
 rw[←hl3,←hl4,←hb]at hcall
 have HC:=Lib.hid hcall
 have HT:=Lib.hid hT
 have HB:=Lib.hid hb
 have HH:=Lib.hid (And.intro hb2 (And.intro hB (And.intro hbW (show C.B≤w2.drew.heap.size from hW2))))
 rw[←hb]at hw2
 have HW:=Lib.hid hw2
 have HO:=Lib.hid ho
 rw[←hl,←hl2,←hb]
 clear hcall hT hb hs2 hw2 hB hS hin hx hx2 hl hl2 hl3 hl4 hbS r1 r2 e0 e1 e2 e3 s1 s2 hsm hW2 hbW hb2 ho h0
 go_enter Tryz.func201,Tryz.ntmps201
 go_wp2_with fail
 rw[←HW.out]
 have hHeld0:=HS2.out
 rw[←HB.out]at hHeld0
 refine wp_region_E (Cnd7 W.heap.size (W.heap.size+1) b2 o2 (some ⟨b,0,none⟩) (some ⟨b2,o2,none⟩) l2 c2 (.int .u8 k0) (.slice A3 l3 c3) (.slice A4 l4 c4) (.int .i64 t0)) (fun i=>decide (i < 7)) (by kernel_rfl) (by exact hHeld0) (fun hHeld=>?_)
 clear hHeld0
 refine wpE_pure 1 (v:=?_) rfl (by kernel_rfl) (fun _ _ _ h=>h) (by rfl) ?_ ?_;rotate_left
 ·intro wz;go_simp;try with_reducible rfl
 try simp only[Act.put,List.setIfInBounds_toArray,List.set_cons_zero,List.set_cons_succ]
 refine wpE_take 0 (v:=?_) rfl (by kernel_rfl) (fun _ _ _ h=>h) hHeld (by rfl) ?_ ?_;rotate_left
 ·intro wz hSz;(try dsimp only[Cnd7]at hSz);go_simp;try with_reducible rfl
 try simp only[Act.put,List.setIfInBounds_toArray,List.set_cons_zero,List.set_cons_succ]
 refine wpE_take 2 (v:=?_) rfl (by kernel_rfl) (fun _ _ _ h=>h) hHeld (by rfl) ?_ ?_;rotate_left
 ·intro wz hSz;(try dsimp only[Cnd7]at hSz);go_simp;try with_reducible rfl
 try simp only[Act.put,List.setIfInBounds_toArray,List.set_cons_zero,List.set_cons_succ]
 refine wpE_pure 3 (v:=?_) rfl (by kernel_rfl) (fun _ _ _ h=>h) (by rfl) ?_ ?_;rotate_left
 ·intro wz;go_simp;try with_reducible rfl
 try simp only[Act.put,List.setIfInBounds_toArray,List.set_cons_zero,List.set_cons_succ]
 refine wpE_take 4 (v:=?_) rfl (by kernel_rfl) (fun _ _ _ h=>h) hHeld (by rfl) ?_ ?_;rotate_left
 ·intro wz hSz;(try dsimp only[Cnd7]at hSz);go_simp;try with_reducible rfl
 try simp only[Act.put,List.setIfInBounds_toArray,List.set_cons_zero,List.set_cons_succ]
 refine wpE_pairA 5 6 23 5 (by decide) (fun v g w=>CI C w2.drew (wayC C.sc C.ar k0 a0 (waysC C.sc C.ar o0) t0) (fun _ _ _ s=>s) (2+szN o0) 0 v none g none w) (fun v g w' hci=>?_) (by kernel_rfl) ⟨by kernel_rfl,by kernel_rfl,by kernel_rfl⟩ (fun g w' hci=>?_) (fun v w' hci=>?_) (fun v g w' hci=>?_) (CI.zero _)
 ·have hs:=HS2.out.fr (((Fr.refl NoT w2).drew).trans hci.fr) HT.out.bp.lt HT.out.bq.lt HH.out.1
  rw[←HB.out]at hs
  exact hs
 ·cases g
  all_goals
   simp only[putO,ptrO,Option.map_none,Option.map_some]
   refine wpOp_step (at_dropE rfl) (fun KK hK=>?_)
   go_simp
   go_at_call 201
   refine(HC.out w' hci.fr).mono ?_
   rintro _ w5 ⟨v0,rfl,hf5,hv5⟩
   try dsimp only
   refine hK _ _ ?_
   exact⟨v0,by kernel_rfl,hci.call1 HH.out.2.2.2 hf5 hv5⟩
 ·cases v
  all_goals
   simp only[putO,ptrO,Option.map_none,Option.map_some]
   refine wpOp_step (at_dropE rfl) (fun KK hK=>?_)
   go_simp
   refine hK _ _ ?_
   exact⟨_,by kernel_rfl,hci.al1 HH.out.2.2.2⟩
 ·simp only[putO,ptrO,Option.map_none,Option.map_some]
  obtain⟨_,_,_,_,_,_,_,gg,cps,hvv,_⟩:=hci.v1 v rfl
  subst hvv
  obtain⟨hf7,hh⟩:=hci.fin1 HH.out.2.2.2
  have HF7:=Lib.hid hf7
  have HHL:=Lib.hid hh
  have hb0:=(hci.b1 g rfl).2.cell 0
  have hbf:=(hci.b1 g rfl).2.frozen 0
  have hbl:=(hci.b1 g rfl).2.lt
  simp only[List.getElem?_toArray,List.getElem?_cons_succ,List.getElem?_cons_zero]at hb0
  clear hci hf7 hh HC hHeld
  refine wpE_next 7 rfl (by kernel_rfl) (fun KK hK=>?_)
  go_simp
  refine hK _ _ (fun h=>absurd h (by decide)) ?_
  clear hK KK
  try simp only[Act.put,List.setIfInBounds_toArray,List.set_cons_zero,List.set_cons_succ]
  refine wpE_done (by kernel_rfl) ?_
  go_wp2_with fail
  go_ret
  have hT:=HT.out.next (((Fr.refl NoT w2).drew).trans HF7.out)
  have h2:=HHL.out
  have hlo:W.heap.size≤w2.drew.heap.size:=HT.out.fr.size
  refine⟨_,rfl,hT.fr,cond_more (way_3 (.inr ⟨Nat.le_trans hlo h2.lo,h2.hi⟩) h2.cell (h2.way.more (fun x hx=>?_) (Nat.le_refl _)) (enters_of Tryz.func244 (by kernel_rfl) rfl)) ?_ ?_⟩
  ·rcases hx with h|h
   ·exact .inl h
   ·exact .inr ⟨Nat.le_trans hlo h.1,h.2⟩
  ·rw[HO.out]
   funext f y n s
   rfl
  ·rw[HO.out]
   simp only[szN]
   omega
end Go.Proofs.YtobegfbdedgmpaaGreatDoor

namespace Go.Proofs.YtobegfbdedgmpaaGreatDoor
open Go.RowKit Go.Shelf

def Cnd11 (p q b o:Nat) (P A2:Option Addr) (l2 c2:Nat) (v0 v1 v2 v3 u0 u1 u2 u3:Value) (W:World):Prop:=Cnd7 p q b o P A2 l2 c2 v0 v1 v2 v3 W∧W.cell? ⟨b,o+4,none⟩=some u0∧W.cell? ⟨b,o+4+1,none⟩=some u1∧W.cell? ⟨b,o+4+2,none⟩=some u2∧W.cell? ⟨b,o+4+3,none⟩=some u3
theorem Cnd11.fr {p q b o l2 c2:Nat} {P A2:Option Addr} {v0 v1 v2 v3 u0 u1 u2 u3:Value} {W w':World} (h:Cnd11 p q b o P A2 l2 c2 v0 v1 v2 v3 u0 u1 u2 u3 W) (hf:Fr NoT W w') (hp:p < W.heap.size) (hq:q < W.heap.size) (hb:b < W.heap.size):Cnd11 p q b o P A2 l2 c2 v0 v1 v2 v3 u0 u1 u2 u3 w':=
 ⟨h.1.fr hf hp hq hb,(hf.cell hb id).trans h.2.1,(hf.cell hb id).trans h.2.2.1,(hf.cell hb id).trans h.2.2.2.1,(hf.cell hb id).trans h.2.2.2.2⟩
theorem cond_two (C:FgC) (k:Int) (hk:k=10∨k=11) (args:Exs) (of_:Cds) (at_:Int) (k0:Int) (a0:Exs) (o0:Cds) (t0:Int) (k1:Int) (a1:Exs) (o1:Cds) (t1:Int) (r1:Cds) (ho:of_= .cons k0 a0 o0 t0 (.cons k1 a1 o1 t1 r1)) (h0:CondC C k0 a0 o0 t0) (h1:CondC C k1 a1 o1 t1):CondC C k args of_ at_:=by
 intro W S Z A A2 c c2 hB hS hin hx hx2
 obtain⟨b2,o2,rfl,hat⟩:=hx2.2.2 (by rw[ho];simp[Cds.len])
 rw[ho]at hat
 obtain⟨⟨hbS,_,r1_,r2,e0,e3⟩,⟨A3,c3,e1,s1⟩,⟨A4,c4,e2,s2⟩,hat2⟩:=hat
 obtain⟨⟨_,_,r1',r2',e0',e3'⟩,⟨A5,c5,e1',s1'⟩,⟨A6,c6,e2',s2'⟩,_⟩:=hat2
 obtain⟨l,hl⟩:∃y,y=args.len:=⟨_,rfl⟩
 obtain⟨l2,hl2⟩:∃y,y=of_.len:=⟨_,rfl⟩
 have hl20:1 < l2:=by rw[hl2,ho];simp[Cds.len]
 have hl21:0 < l2:=by omega
 have hl22:(1:Int) < (l2:Int):=by omega
 have hl2m:l2≤9223372036854775807:=by rw[hl2];exact Nat.le_trans hx2.1 hx2.2.1.1
 obtain⟨l3,hl3⟩:∃y,y=a0.len:=⟨_,rfl⟩
 obtain⟨l4,hl4⟩:∃y,y=o0.len:=⟨_,rfl⟩
 obtain⟨l5,hl5⟩:∃y,y=a1.len:=⟨_,rfl⟩
 obtain⟨l6,hl6⟩:∃y,y=o1.len:=⟨_,rfl⟩
 obtain⟨w2,hw2⟩:∃y,y=(W.alloc (.cells #[.pointer (some ⟨C.b,0,none⟩)] 130)).alloc (.cells #[.int .u8 k,.slice A l c,.slice (some ⟨b2,o2,none⟩) l2 c2,.int .i64 at_] 199):=⟨_,rfl⟩
 have hT:=Two.of hw2
 have hW2:C.B≤w2.heap.size:=Nat.le_trans hB hT.fr.size
 have hbW:b2 < W.heap.size:=Nat.lt_of_lt_of_le (hS _ hbS) hB
 have hb2:b2 < w2.heap.size:=Nat.lt_of_lt_of_le hbW hT.fr.size
 have hsm:∀w',Fr NoT w2.drew w'→SameS S W w':=fun w' hf=>((hT.fr.drew).same fun b hb=>⟨Nat.lt_of_lt_of_le (hS b hb) hB,id⟩).trans (hf.same fun b hb=>⟨Nat.lt_of_lt_of_le (Nat.lt_of_lt_of_le (hS b hb) hB) hT.fr.size,id⟩)
 have hcall:∀w',Fr NoT w2.drew w'→_:=fun w' hf=>h0 w' S Z A3 A4 c3 c4 (Nat.le_trans hW2 hf.size) hS r2 (s1.imp fun _ _ hx=>ExR.keep (hsm w' hf) hx) (s2.imp fun _ _ hx=>CdR.keep (hsm w' hf) hx)
 have hcall1:∀w',Fr NoT w2.drew w'→_:=fun w' hf=>h1 w' S Z A5 A6 c5 c6 (Nat.le_trans hW2 hf.size) hS r2' (s1'.imp fun _ _ hx=>ExR.keep (hsm w' hf) hx) (s2'.imp fun _ _ hx=>CdR.keep (hsm w' hf) hx)
 have hs2:Cnd11 W.heap.size (W.heap.size+1) b2 o2 (some ⟨C.b,0,none⟩) (some ⟨b2,o2,none⟩) l2 c2 (.int .u8 k0) (.slice A3 l3 c3) (.slice A4 l4 c4) (.int .i64 t0) (.int .u8 k1) (.slice A5 l5 c5) (.slice A6 l6 c6) (.int .i64 t1) w2:=
  ⟨⟨hT.bp.cell 0,hT.bq.cell 2,(hT.fr.cell hbW id).trans e0,(hT.fr.cell hbW id).trans (by rw[hl3];exact e1),(hT.fr.cell hbW id).trans (by rw[hl4];exact e2),(hT.fr.cell hbW id).trans e3⟩,(hT.fr.cell hbW id).trans e0',(hT.fr.cell hbW id).trans (by rw[hl5];exact e1'),(hT.fr.cell hbW id).trans (by rw[hl6];exact e2'),(hT.fr.cell hbW id).trans e3'⟩
 have HS2:=Lib.hid hs2
 obtain⟨b,hb⟩:∃b,b=C.b:=⟨_,rfl⟩
 rw[←hl3,←hl4,←hb]at hcall
 rw[←hl5,←hl6,←hb]at hcall1
 have HC:=Lib.hid hcall
 have HC1:=Lib.hid hcall1
 have HT:=Lib.hid hT
 have HB:=Lib.hid hb
 have HH:=Lib.hid (And.intro hb2 (And.intro hB (And.intro hbW (And.intro (show C.B≤w2.drew.heap.size from hW2) hin))))
 rw[←hb]at hw2
 have HW:=Lib.hid hw2
 have HO:=Lib.hid ho
 rw[←hl,←hl2,←hb]
 have HK:=Lib.hid hk
 have q1:(k==1)=false:=by simp;omega
 have q2:(k==2)=false:=by simp;omega
 have q9:(k==9)=false:=by simp;omega
 have qs:(k==10)=true∨(k==10)=false∧(k==11)=true:=by rcases hk with rfl|rfl<;>simp
 clear hcall hcall1 hT hb hs2 hw2 hB hS hin hx hx2 hl hl2 hl3 hl4 hl5 hl6 hbS r1_ r2 r1' r2' e0 e1 e2 e3 e0' e1' e2' e3' s1 s2 s1' s2' hsm hW2 hbW hb2 ho h0 h1 hk
 rcases qs with q10|⟨q10,q11⟩
 all_goals
  go_enter Tryz.func201,Tryz.ntmps201
  go_wp2_with fail
  rw[←HW.out]
  have hHeld0:=HS2.out
  rw[←HB.out]at hHeld0
  refine wp_region_E (Cnd11 W.heap.size (W.heap.size+1) b2 o2 (some ⟨b,0,none⟩) (some ⟨b2,o2,none⟩) l2 c2 (.int .u8 k0) (.slice A3 l3 c3) (.slice A4 l4 c4) (.int .i64 t0) (.int .u8 k1) (.slice A5 l5 c5) (.slice A6 l6 c6) (.int .i64 t1)) (fun i=>decide (i < 15)) (by kernel_rfl) (by exact hHeld0) (fun hHeld=>?_)
  clear hHeld0
  refine wpE_pure 1 (v:=?_) rfl (by kernel_rfl) (fun _ _ _ h=>h) (by rfl) ?_ ?_;rotate_left
  ·intro wz;go_simp;try with_reducible rfl
  try simp only[Act.put,List.setIfInBounds_toArray,List.set_cons_zero,List.set_cons_succ]
  refine wpE_take 0 (v:=?_) rfl (by kernel_rfl) (fun _ _ _ h=>h) hHeld (by rfl) ?_ ?_;rotate_left
  ·intro wz hSz;(try dsimp only[Cnd11,Cnd7]at hSz);go_simp;try with_reducible rfl
  try simp only[Act.put,List.setIfInBounds_toArray,List.set_cons_zero,List.set_cons_succ]
  refine wpE_take 2 (v:=?_) rfl (by kernel_rfl) (fun _ _ _ h=>h) hHeld (by rfl) ?_ ?_;rotate_left
  ·intro wz hSz;(try dsimp only[Cnd11,Cnd7]at hSz);go_simp;try with_reducible rfl
  try simp only[Act.put,List.setIfInBounds_toArray,List.set_cons_zero,List.set_cons_succ]
  refine wpE_pure 3 (v:=?_) rfl (by kernel_rfl) (fun _ _ _ h=>h) (by rfl) ?_ ?_;rotate_left
  ·intro wz;go_simp;try with_reducible rfl
  try simp only[Act.put,List.setIfInBounds_toArray,List.set_cons_zero,List.set_cons_succ]
  refine wpE_take 4 (v:=?_) rfl (by kernel_rfl) (fun _ _ _ h=>h) hHeld (by rfl) ?_ ?_;rotate_left
  ·intro wz hSz;(try dsimp only[Cnd11,Cnd7]at hSz);go_simp;try with_reducible rfl
  try simp only[Act.put,List.setIfInBounds_toArray,List.set_cons_zero,List.set_cons_succ]
  refine wpE_pure 7 (v:=?_) rfl (by kernel_rfl) (fun _ _ _ h=>h) (by rfl) ?_ ?_;rotate_left
  ·intro wz;go_simp;try with_reducible rfl
  try simp only[Act.put,List.setIfInBounds_toArray,List.set_cons_zero,List.set_cons_succ]
  refine wpE_take 6 (v:=?_) rfl (by kernel_rfl) (fun _ _ _ h=>h) hHeld (by rfl) ?_ ?_;rotate_left
  ·intro wz hSz;(try dsimp only[Cnd11,Cnd7]at hSz);go_simp;try with_reducible rfl
  try simp only[Act.put,List.setIfInBounds_toArray,List.set_cons_zero,List.set_cons_succ]
  refine wpE_take 8 (v:=?_) rfl (by kernel_rfl) (fun _ _ _ h=>h) hHeld (by rfl) ?_ ?_;rotate_left
  ·intro wz hSz;(try dsimp only[Cnd11,Cnd7]at hSz);go_simp;try with_reducible rfl
  try simp only[Act.put,List.setIfInBounds_toArray,List.set_cons_zero,List.set_cons_succ]
  refine wpE_pure 9 (v:=?_) rfl (by kernel_rfl) (fun _ _ _ h=>h) (by rfl) ?_ ?_;rotate_left
  ·intro wz;go_simp;try with_reducible rfl
  try simp only[Act.put,List.setIfInBounds_toArray,List.set_cons_zero,List.set_cons_succ]
  refine wpE_take 10 (v:=?_) rfl (by kernel_rfl) (fun _ _ _ h=>h) hHeld (by rfl) ?_ ?_;rotate_left
  ·intro wz hSz;(try dsimp only[Cnd11,Cnd7]at hSz);go_simp;try with_reducible rfl
  try simp only[Act.put,List.setIfInBounds_toArray,List.set_cons_zero,List.set_cons_succ]
  refine wpE_fourA 5 11 12 13 33 39 6 7 (by decide) (fun u v g h w=>CI C w2.drew (wayC C.sc C.ar k0 a0 (waysC C.sc C.ar o0) t0) (wayC C.sc C.ar k1 a1 (waysC C.sc C.ar o1) t1) (2+szN o0) (2+szN o1) u v g h w) (fun u v g h w' hci=>?_) (by kernel_rfl) (fun b c d e hbc=>?_) (fun g h w' hci=>?_) (fun u g h w' hci=>?_) (fun u v h w' hci=>?_) (fun u v g w' hci=>?_) (fun v g h w' hci=>hci.ord v rfl rfl) (fun u v g h w' hci=>?_) (CI.zero _)
  ·have hs:=HS2.out.fr (((Fr.refl NoT w2).drew).trans hci.fr) HT.out.bp.lt HT.out.bq.lt HH.out.1
   rw[←HB.out]at hs
   exact hs
  ·cases b<;>cases c<;>cases d<;>cases e<;>first|(exact absurd (hbc rfl) (by decide))|(exact .inr rfl)|exact .inl (by kernel_rfl)
  ·cases g<;>cases h
   all_goals
    simp only[putO,ptrO,Option.map_none,Option.map_some]
    refine wpOp_step (at_dropE rfl) (fun KK hK=>?_)
    go_simp
    go_at_call 201
    refine(HC.out w' hci.fr).mono ?_
    rintro _ w5 ⟨v0,rfl,hf5,hv5⟩
    try dsimp only
    refine hK _ _ ?_
    exact⟨v0,by kernel_rfl,hci.call1 HH.out.2.2.2.1 hf5 hv5⟩
  ·cases g<;>cases h
   all_goals
    simp only[putO,ptrO,Option.map_none,Option.map_some]
    refine wpOp_step (at_dropE rfl) (fun KK hK=>?_)
    go_simp
    go_at_call 201
    refine(HC1.out w' hci.fr).mono ?_
    rintro _ w5 ⟨v0,rfl,hf5,hv5⟩
    try dsimp only
    refine hK _ _ ?_
    exact⟨v0,by kernel_rfl,hci.call2 HH.out.2.2.2.1 hf5 hv5⟩
  ·cases u<;>cases v<;>cases h<;>try exact(hci.ord _ rfl rfl).elim
   all_goals
    simp only[putO,ptrO,Option.map_none,Option.map_some]
    refine wpOp_step (at_dropE rfl) (fun KK hK=>?_)
    go_simp
    refine hK _ _ ?_
    exact⟨_,by kernel_rfl,hci.al1 HH.out.2.2.2.1⟩
  ·cases u<;>cases v<;>cases g<;>try exact(hci.ord _ rfl rfl).elim
   all_goals
    simp only[putO,ptrO,Option.map_none,Option.map_some]
    refine wpOp_step (at_dropE rfl) (fun KK hK=>?_)
    go_simp
    refine hK _ _ ?_
    exact⟨_,by kernel_rfl,hci.al2 HH.out.2.2.2.1⟩
  ·simp only[putO,ptrO,Option.map_none,Option.map_some]
   obtain⟨_,_,_,_,_,_,_,gg,cps,hvv,_⟩:=hci.v1 u rfl
   subst hvv
   obtain⟨_,_,_,_,_,_,_,gg2,cps2,hvv,_⟩:=hci.v2 v rfl
   subst hvv
   have HF:=Lib.hid (hci.fin2 HH.out.2.2.2.1)
   have hs14:=HS2.out.fr ((((Fr.refl NoT w2).drew).trans hci.fr).high (hci.b1 g rfl).1 0 (.func (.func gg) #[] cps)) HT.out.bp.lt HT.out.bq.lt HH.out.1
   rw[←HB.out]at hs14
   have HS14:=Lib.hid hs14
   clear hs14
   have hb0:=(hci.b1 g rfl).2.cell 0
   have hbf:=(hci.b1 g rfl).2.frozen 0
   have hbl:=(hci.b1 g rfl).2.lt
   have hd0:=(hci.b2 h rfl).2.cell 0
   have hdf:=(hci.b2 h rfl).2.frozen 0
   have hdl:=(hci.b2 h rfl).2.lt
   have hne:=hci.ne g h rfl rfl
   have hne':=Ne.symm hne
   simp only[List.getElem?_toArray,List.getElem?_cons_succ,List.getElem?_cons_zero]at hb0 hd0
   clear hci hHeld
   refine wpE_next 14 rfl (by kernel_rfl) (fun KK hK=>?_)
   go_simp
   refine hK _ _ (fun _ _=>HS14.out) ?_
   clear hK KK
   try simp only[Act.put,List.setIfInBounds_toArray,List.set_cons_zero,List.set_cons_succ]
   refine wpE_next 15 rfl (by kernel_rfl) (fun KK hK=>?_)
   go_simp
   refine hK _ _ (fun h=>absurd h (by decide)) ?_
   clear hK KK
   try simp only[Act.put,List.setIfInBounds_toArray,List.set_cons_zero,List.set_cons_succ]
   refine wpE_done (by kernel_rfl) ?_
   go_wp2_with fail
   go_ret
   obtain⟨hf7,h1,h2⟩:=HF.out
   have hT:=HT.out.next (((Fr.refl NoT w2).drew).trans hf7)
   have hlo:W.heap.size≤w2.drew.heap.size:=HT.out.fr.size
   have hsub:∀hi x,FgK C.B w2.drew.heap.size hi x→FgK C.B W.heap.size hi x:=fun hi x hx=>hx.elim Or.inl fun h=>Or.inr ⟨Nat.le_trans hlo h.1,h.2⟩
   refine⟨_,rfl,hT.fr,cond_more (way_4 (k:=k) (hT.boxes HH.out.2.2.2.2) (hT.bq.cell 0) (inK_lt hT HH.out.2.1) (.inr ⟨Nat.le_trans hlo h1.lo,h1.hi⟩) h1.cell (h1.way.more (hsub _) (Nat.le_refl _)) (.inr ⟨Nat.le_trans hlo h2.lo,h2.hi⟩) h2.cell (h2.way.more (hsub _) (Nat.le_refl _)) (enters_of Tryz.func245 (by kernel_rfl) rfl)) ?_ ?_⟩
   ·rw[HO.out]
    funext f y n s
    rcases HK.out with rfl|rfl<;>rfl
   ·rw[HO.out]
    simp only[szN]
    omega
theorem fcond_one (C:FgC) (k:Int) (args:Exs) (of_:Cds) (at_:Int) (hw:wfD k args of_) (h:∀i k0 a0 o0 t0 r0,Cds.drop i of_= .cons k0 a0 o0 t0 r0→CondC C k0 a0 o0 t0):CondC C k args of_ at_:=by
 obtain⟨hz,h1,h2,h9,h10⟩:=hw
 by_cases h8:k≤8
 ·exact cond_leaf C k args of_ at_ hz h1 h8
 ·rcases(show k=9∨k=10∨k=11 from by omega)with e|e
  ·cases of_ with
   |nil=>exact absurd (h9 e) (by simp[Cds.len])
   |cons k0 a0 o0 t0 r0=>rw[e];exact cond_not C args _ at_ k0 a0 o0 t0 r0 rfl (h 0 _ _ _ _ _ rfl)
  ·cases of_ with
   |nil=>exact absurd (h10 e) (by simp[Cds.len])
   |cons k0 a0 o0 t0 r0=>
    cases r0 with
    |nil=>exact absurd (h10 e) (by simp[Cds.len])
    |cons k1 a1 o1 t1 r1=>exact cond_two C k e args _ at_ k0 a0 o0 t0 k1 a1 o1 t1 r1 rfl (h 0 _ _ _ _ _ rfl) (h 1 _ _ _ _ _ rfl)
theorem conds_all (C:FgC):∀xs:Cds,wfC xs→∀i k0 a0 o0 t0 r0,Cds.drop i xs= .cons k0 a0 o0 t0 r0→CondC C k0 a0 o0 t0
 | .nil,_,i,_,_,_,_,_,h=>by cases i<;>simp[Cds.drop]at h
 | .cons k args of_ at_ r,hw,0,k0,a0,o0,t0,r0,h=>by
  simp only[Cds.drop,Cds.cons.injEq]at h
  obtain⟨rfl,rfl,rfl,rfl,_⟩:=h
  exact fcond_one C _ _ _ _ hw.1 (conds_all C _ hw.2.1)
 | .cons k args of_ at_ r,hw,i+1,k0,a0,o0,t0,r0,h=>by
  simp only[Cds.drop]at h
  exact conds_all C r hw.2.2 i k0 a0 o0 t0 r0 h
theorem fcond_any (C:FgC) (k:Int) (args:Exs) (of_:Cds) (at_:Int) (r:Cds) (h:wfC (.cons k args of_ at_ r)):CondC C k args of_ at_:=conds_all C _ h 0 _ _ _ _ _ rfl

def szM (cond:Cds) (b e:Nat):Nat:=8+szN cond+b+e
def szT:Sts→Nat
 | .nil =>0
 | .cons _ _ _ cond body els _ r=>1+szM cond (szT body) (szT els)+szT r
theorem Grow.refl (N:Nat) (s:FgS):Grow N s s:=by
 unfold Grow
 refine⟨Int.le_refl _,?_,?_⟩<;>omega
theorem grow_put' (sc ar:NoN) (s:FgS) (a b c d e f:Int) (xs:Exs):Grow 1 s (s.put sc ar a b c d e f xs):=by
 unfold Grow FgS.put
 refine⟨?_,?_,?_⟩<;>simp
 omega
def szW:Cds→Nat→Nat
 | .nil,_=>0
 | .cons _ _ of_ _ _,0=>2+szN of_
 | .cons _ _ _ _ r,i+1=>szW r i
theorem szW_le:∀(xs:Cds) (i:Nat),szW xs i≤szN xs
 | .nil,_=>Nat.le_refl _
 | .cons _ _ of_ _ r,0=>by simp only[szW,szN];omega
 | .cons _ _ of_ _ r,i+1=>by have:=szW_le r i;simp only[szW,szN];omega
theorem szW_two:∀xs:Cds,szW xs 0+szW xs 1≤szN xs
 | .nil =>Nat.le_refl _
 | .cons _ _ of_ _ r=>by have:=szW_le r 0;simp only[szW,szN];omega
theorem grow_ways (sc ar:NoN):∀(xs:Cds) (i:Nat) (f y n:Int) (s:FgS),Grow (szW xs i) s (nthW (waysC sc ar xs) i f y n s)
 | .nil,i,f,y,n,s=>by
  simp only[waysC,nthW,List.getD_nil]
  exact Grow.refl _ _
 | .cons k args of_ at_ r,i+1,f,y,n,s=>by
  have:=grow_ways sc ar r i f y n s
  simp only[waysC,nthW,List.getD_cons_succ]at this ⊢
  exact this
 | .cons k args of_ at_ r,0,f,y,n,s=>by
  have h:=grow_ways sc ar of_
  have h2:=szW_two of_
  have h3:=szW_le of_ 0
  simp only[waysC,nthW,List.getD_cons_zero,szW]
  unfold wayC
  split
  ·exact(grow_put' sc ar s _ _ _ _ _ _ _).mono (by omega)
  split
  ·exact(grow_put' sc ar s _ _ _ _ _ _ _).mono (by omega)
  split
  ·exact(h 0 f n y s).mono (by omega)
  split
  ·exact(((grow_node s).trans (h 0 _ _ _ _)).trans (h 1 _ _ _ _)).mono (by omega)
  split
  ·exact(((grow_node s).trans (h 0 _ _ _ _)).trans (h 1 _ _ _ _)).mono (by omega)
  ·exact((grow_put' sc ar s _ _ _ _ _ _ _).trans (grow_put' sc ar _ _ _ _ _ _ _ _)).mono (by omega)
theorem grow_way0 (sc ar:NoN) (xs:Cds) (f y n:Int) (s:FgS):Grow (szN xs) s (nthW (waysC sc ar xs) 0 f y n s):=(grow_ways sc ar xs 0 f y n s).mono (szW_le xs 0)
theorem grow_stm (sc ar:NoN) (k:Int) (nm:ByteArray) (args:Exs) (cond:Cds) (b e:List Mk) (nb ne:Nat) (a f t:Int) (s:FgS) (hb:∀f t a s,Grow (1+nb) s (blkF sc ar b f t a s)) (he:∀f t a s,Grow (1+ne) s (blkF sc ar e f t a s)):
  Grow (szM cond nb ne) s (stmF sc ar k nm args (waysC sc ar cond) b e a f t s):=by
 have h1:=fun a b c d e f g s=>grow_put' sc ar s a b c d e f g
 have h2:=grow_way0 sc ar cond
 unfold stmF szM
 split
 ·exact(h1 _ _ _ _ _ _ _ _).mono (by omega)
 split
 ·exact(h1 _ _ _ _ _ _ _ _).mono (by omega)
 split
 ·exact(h1 _ _ _ _ _ _ _ _).mono (by omega)
 split
 ·exact(h1 _ _ _ _ _ _ _ _).mono (by omega)
 split
 ·exact(((grow_node s).trans (h2 _ _ _ _)).trans (h1 _ _ _ _ _ _ _ _)).mono (by omega)
 split
 ·exact(((grow_node s).trans (h2 _ _ _ _)).trans (h1 _ _ _ _ _ _ _ _)).mono (by omega)
 split
 ·exact(((((grow_node s).trans (grow_node _)).trans (h2 _ _ _ _)).trans (hb _ _ _ _)).trans (he _ _ _ _)).mono (by omega)
 split
 ·exact(((((((grow_node s).trans (grow_node _)).trans (grow_node _)).trans (h1 _ _ _ _ _ _ _ _)).trans (h1 _ _ _ _ _ _ _ _)).trans (h2 _ _ _ _)).trans (hb _ _ _ _)).mono (by omega)
 ·exact Grow.refl _ _
theorem grow_blk (sc ar:NoN):∀(xs:Sts) (f t a:Int) (s:FgS),Grow (1+szT xs) s (blkF sc ar (mksS sc ar xs) f t a s)
 | .nil,f,t,a,s=>by
  simp only[mksS,blkF]
  exact(grow_put' sc ar s _ _ _ _ _ _ _).mono (by omega)
 | .cons k nm args cond body els at_ .nil,f,t,a,s=>by
  simp only[mksS,blkF]
  exact(grow_stm sc ar k nm args cond _ _ (szT body) (szT els) at_ f t s (grow_blk sc ar body) (grow_blk sc ar els)).mono (by simp only[szT];omega)
 | .cons k nm args cond body els at_ (.cons k' nm' args' cond' body' els' at' r),f,t,a,s=>by
  have h:=grow_blk sc ar (.cons k' nm' args' cond' body' els' at' r)
  simp only[mksS,blkF]at h ⊢
  exact(((grow_node s).trans (grow_stm sc ar k nm args cond _ _ (szT body) (szT els) at_ f s.nodes s.node (grow_blk sc ar body) (grow_blk sc ar els))).trans (h _ _ _ _)).mono (by simp only[szT];omega)
def Cur (C:FgC) (u:Value) (W:World) (s:FgS) (w:World):Prop:=∃u',C.At s u' w∧Made C.b u u' W w
section
variable {C:FgC} {u:Value} {s s0:FgS} {W w w':World} {N:Nat}
theorem Cur.start (h:C.At s u w):Cur C u w s w:=⟨u,h,Made.refl _ _ _⟩
theorem Cur.fr0 (h:Cur C u W s w) (hf:Fr NoT w w'):Cur C u W s w':=by
 obtain⟨u',h1,h2⟩:=h
 exact⟨u',h1.fr0 hf,h2.trans (Made.of hf)⟩
theorem Cur.bk {g:Nat} {t:TypeId} {cs:Array Value} (h:Cur C u W s w) (hk:Bk W g t cs) (hn:¬MOwn C.b u g):Bk w g t cs:=by
 obtain⟨u',h1,h2⟩:=h
 exact(h2.bk hk hn).1
theorem Cur.same (h:Cur C u W s w) (h0:C.At s0 u W) {S:Nat→Prop} (hS:∀x,S x→x < C.B):SameS S W w:=by
 obtain⟨u',h1,h2⟩:=h
 exact h2.same h0 hS
theorem Cur.base (h:Cur C u W s w):C.B≤w.heap.size:=by
 obtain⟨u',h1,h2⟩:=h
 exact MkS.base h1
def CurP (C:FgC) (u:Value) (W:World) (s:FgS) (e:Ending) (w':World):Prop:=e= .returned (.tuple #[])∧Cur C u W s w'
theorem Cur.of {s':FgS} {e:Ending} {u':Value} (h2:Made C.b u u' W w) (h:MkP C s' u' w e w'):CurP C u W s' e w':=by
 obtain⟨u2,e1,h3,h4⟩:=h
 exact⟨e1,u2,h3,h2.trans h4⟩
theorem Cur.node (h:Cur C u W s w) (hr:Room 1 s):Calls Tryz.prog 124 #[.pointer (some ⟨C.b,0,none⟩)] w fun e w'=>e= .returned (.int .i64 s.nodes)∧Cur C u W s.node w':=by
 obtain⟨u',h1,h2⟩:=h
 exact(fnode_c h1 hr).mono fun e w' h=>⟨h.1,u',h.2.1,h2.trans h.2.2⟩
theorem Cur.put (h:Cur C u W s w) (from_ to_ at_ kind n cmp:Int) (hok:in64 from_∧in64 to_∧in8 kind∧in64 n∧in8 cmp∧in64 at_) (xs:Exs) (S:Nat→Prop) (Z:Prop) (A:Option Addr) (c:Nat) (hS:∀x,S x→x < C.B) (hz:szQ xs) (hx:SlR (fun b o=>ExR w S Z xs b o) xs.len 64 A c) (hr:Room 1 s):
  Calls Tryz.prog 123 #[.pointer (some ⟨C.b,0,none⟩),.int .i64 from_,.int .i64 to_,.int .i64 at_,.agg #[.int .u8 kind,.int .i64 n,.int .u8 cmp,.slice none 0 0],.slice A xs.len c] w (CurP C u W (s.put C.sc C.ar from_ to_ at_ kind n cmp xs)):=by
 obtain⟨u',h1,h2⟩:=h
 exact(fput_c h1 from_ to_ at_ kind n cmp hok xs S Z A c hS hz hx hr).mono fun e w' h=>Cur.of h2 h
theorem Cur.put0 (h:Cur C u W s w) (from_ to_ at_ kind n cmp:Int) (hok:in64 from_∧in64 to_∧in8 kind∧in64 n∧in8 cmp∧in64 at_) (hr:Room 1 s):
  Calls Tryz.prog 123 #[.pointer (some ⟨C.b,0,none⟩),.int .i64 from_,.int .i64 to_,.int .i64 at_,.agg #[.int .u8 kind,.int .i64 n,.int .u8 cmp,.slice none 0 0],.slice none 0 0] w (CurP C u W (s.put C.sc C.ar from_ to_ at_ kind n cmp .nil)):=by
 obtain⟨u',h1,h2⟩:=h
 exact(fput_0 h1 from_ to_ at_ kind n cmp hok hr).mono fun e w' h=>Cur.of h2 h
def WayN (C:FgC) (u:Value) (W:World) (s:FgS) (N:Nat) (val:Value) (c:Way) (w:World):Prop:=
 ∃g caps,val= .func (.func g) #[] caps∧Enters Tryz.prog g∧(Room N s→∀f y n,in64 f→in64 y→in64 n→Calls Tryz.prog g (#[.int .i64 f,.int .i64 y,.int .i64 n]++caps) w (CurP C u W (c f y n s)))
theorem Cur.cond (h:Cur C u W s w) (h0:C.At s0 u W) (k:Int) (args:Exs) (of_:Cds) (at_:Int) (hc:CondC C k args of_ at_) (S:Nat→Prop) (Z:Prop) (A A2:Option Addr) (c c2:Nat) (hS:∀x,S x→x < C.B) (hin:in64 at_) (hx:SlR (fun b o=>ExR W S Z args b o) args.len 64 A c) (hx2:SlR (fun b o=>CdR W S Z of_ b o) of_.len 64 A2 c2):
  Calls Tryz.prog 201 #[.pointer (some ⟨C.b,0,none⟩),.agg #[.int .u8 k,.slice A args.len c,.slice A2 of_.len c2,.int .i64 at_]] w fun e w'=>∃val,e= .returned val∧Cur C u W s w'∧WayN C u W s (2+szN of_) val (wayC C.sc C.ar k args (waysC C.sc C.ar of_) at_) w':=by
 have hs:=h.same h0 hS
 refine(hc w S Z A A2 c c2 h.base hS hin (hx.imp fun _ _ hx=>ExR.keep hs hx) (hx2.imp fun _ _ hx=>CdR.keep hs hx)).mono ?_
 rintro e w' ⟨val,rfl,hf,g,caps,hv,hg,_,hcall⟩
 obtain⟨u',k1,k2⟩:=h
 refine⟨val,rfl,⟨u',k1.fr0 hf,k2.trans (Made.of hf)⟩,g,caps,hv,hg,fun hr f y n hf' hy hn=>(hcall w' s u' (SameS.refl _ _) (Nat.le_refl _) (k1.fr0 hf) (fun x hx=>?_) hr f y n hf' hy hn).mono fun e w3 h=>Cur.of (k2.trans (Made.of hf)) h⟩
 rcases hx with hx|hx
 ·exact MkS.low_ k1 hx
 ·exact MkS.new k1 hx.1
end
end Go.Proofs.YtobegfbdedgmpaaGreatDoor
