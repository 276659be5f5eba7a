/-
  flow's maker: ways of a condition: the closures.
-/
import Derived.Test.YtphlnpaikpjakaaGreatDoorJnFg2
set_option linter.unusedVariables false
set_option linter.unusedSimpArgs false
set_option maxHeartbeats 1600000
set_option maxRecDepth 100000
namespace Go.Proofs.YtphlnpaikpjakaaGreatDoor
open Go.RowKit Go.Shelf

structure FgC where
 B:Nat
 b:Nat
 mS:Nat
 mA:Nat
 vars:Int
 sl:Value
 sc:NoN
 ar:NoN
 r1:NoR sc
 r2:NoR ar
def FgC.At (C:FgC) (s:FgS) (v:Value) (w:World):Prop:=MkS C.B C.b C.mS C.mA C.vars C.sl C.sc C.ar s v w
theorem FgC.At.fr0 {C:FgC} {s:FgS} {v:Value} {w w':World} (h:C.At s v w) (hf:Fr NoT w w'):C.At s v w':=MkS.fr0 h hf
def FgC.put (C:FgC) (s:FgS) (from_ to_ at_ kind n cmp:Int) (args:Exs):FgS:=s.put C.sc C.ar from_ to_ at_ kind n cmp args
def MkP (C:FgC) (s:FgS) (u:Value) (W:World) (e:Ending) (w':World):Prop:=∃u',e= .returned (.tuple #[])∧C.At s u' w'∧Made C.b u u' W w'
def FgK (B lo hi x:Nat):Prop:=x < B∨(lo≤x∧x < hi)
def Off (K:Nat→Prop) (b:Nat) (v:Value):Prop:=∀x,K x→¬MOwn b v x
def Room (N:Nat) (s:FgS):Prop:=0≤s.nodes∧s.nodes+N≤1000000000000∧s.edges.length+N≤1000000000000
def Grow (N:Nat) (s s':FgS):Prop:=s.nodes≤s'.nodes∧s'.nodes≤s.nodes+N∧s'.edges.length≤s.edges.length+N
section
variable {N M:Nat} {s s1 s2:FgS}
theorem Grow.trans (h:Grow N s s1) (k:Grow M s1 s2):Grow (N+M) s s2:=by
 unfold Grow at*
 obtain⟨h1,h2,h3⟩:=h
 obtain⟨k1,k2,k3⟩:=k
 refine⟨?_,?_,?_⟩
 ·omega
 ·push_cast;omega
 ·omega
theorem Grow.mono (h:Grow N s s1) (hn:N≤M):Grow M s s1:=by
 unfold Grow at*
 obtain⟨h1,h2,h3⟩:=h
 refine⟨h1,?_,?_⟩<;>omega
theorem Room.less (h:Room M s) (hn:N≤M):Room N s:=by
 unfold Room at*
 obtain⟨h1,h2,h3⟩:=h
 refine⟨h1,?_,?_⟩<;>omega
theorem Room.after (h:Room (N+M) s) (g:Grow N s s1):Room M s1:=by
 unfold Room Grow at*
 obtain⟨h1,h2,h3⟩:=h
 obtain⟨g1,g2,g3⟩:=g
 push_cast at h2
 refine⟨?_,?_,?_⟩<;>omega
theorem Room.in_ (h:Room N s):in64 s.nodes:=by
 unfold Room at h
 unfold in64
 obtain⟨h1,h2,h3⟩:=h
 constructor<;>omega
theorem grow_put (C:FgC) (s:FgS) (a b c d e f:Int) (xs:Exs):Grow 1 s (C.put s a b c d e f xs):=by
 unfold Grow FgC.put FgS.put
 refine⟨?_,?_,?_⟩<;>simp
 omega
theorem grow_node (s:FgS):Grow 1 s s.node:=by
 unfold Grow FgS.node
 refine⟨?_,?_,?_⟩<;>simp
 omega
end
def WayP (C:FgC) (K:Nat→Prop) (val:Value) (c:Way) (N:Nat) (w:World):Prop:=
 ∃g caps,val= .func (.func g) #[] caps∧Enters Tryz.prog g∧(∀f y n s,Grow N s (c f y n s))∧
  ∀(W:World) (s:FgS) (u:Value),SameS K w W→w.heap.size≤W.heap.size→C.At s u W→Off K C.b u→Room N s→∀f y n,in64 f→in64 y→in64 n→
   Calls Tryz.prog g (#[.int .i64 f,.int .i64 y,.int .i64 n]++caps) W (MkP C (c f y n s) u W)
section
variable {C:FgC} {K L:Nat→Prop} {val:Value} {c:Way} {N M:Nat} {w w':World} {s s':FgS} {u u':Value}
theorem WayP.more (h:WayP C K val c N w) (hk:∀x,K x→L x) (hn:N≤M):WayP C L val c M w:=by
 obtain⟨g,caps,h1,h2,h3,h4⟩:=h
 exact⟨g,caps,h1,h2,fun f y n s=>(h3 f y n s).mono hn,fun W s u a1 a0 a2 a3 a4=>h4 W s u (a1.mono hk) a0 a2 (fun x hx=>a3 x (hk x hx)) (a4.less hn)⟩
theorem off_step (hm:Made C.b u u' w w') (ho:Off K C.b u) (hk:∀x,K x→x < w.heap.size):SameS K w w'∧Off K C.b u':=by
 refine⟨hm.fr.same fun x hx=>⟨hk x hx,ho x hx⟩,fun x hx=>?_⟩
 rintro(e|e)
 ·exact ho x hx (.inl e)
 ·rcases hm.row x e with e2|e2
  ·exact ho x hx (.inr e2)
  ·have:=hk x hx;omega
theorem fput_c (h:C.At s u w) (from_ to_ at_ kind n cmp:Int) (hok:in64 from_∧in64 to_∧in8 kind∧in64 n∧in8 cmp∧in64 at_) (xs:Exs) (S:Nat→Prop) (Z:Prop) (A:Option Addr) (c:Nat) (hS:∀x,S x→x < C.B) (hz:szQ xs) (hx:SlR (fun b o=>ExR w S Z xs b o) xs.len 64 A c) (hr:Room 1 s):
  Calls Tryz.prog 61 #[.pointer (some ⟨C.b,0,none⟩),.int .i64 from_,.int .i64 to_,.int .i64 at_,.agg #[.int .u8 kind,.int .i64 n,.int .u8 cmp,.slice none 0 0],.slice A xs.len c] w (MkP C (C.put s from_ to_ at_ kind n cmp xs) u w):=
 fput_any h C.r1 C.r2 from_ to_ at_ kind n cmp hok _ rfl xs S Z A c hS hz hx (by obtain⟨_,_,h3⟩:=hr;omega)
theorem fput_0 (h:C.At s u w) (from_ to_ at_ kind n cmp:Int) (hok:in64 from_∧in64 to_∧in8 kind∧in64 n∧in8 cmp∧in64 at_) (hr:Room 1 s):
  Calls Tryz.prog 61 #[.pointer (some ⟨C.b,0,none⟩),.int .i64 from_,.int .i64 to_,.int .i64 at_,.agg #[.int .u8 kind,.int .i64 n,.int .u8 cmp,.slice none 0 0],.slice none 0 0] w (MkP C (C.put s from_ to_ at_ kind n cmp .nil) u w):=
 fput_c h from_ to_ at_ kind n cmp hok .nil (fun _=>False) False none 0 (fun _ h=>h.elim) trivial ⟨lrq _,by decide,fun h=>absurd h (Nat.lt_irrefl _)⟩ hr
theorem fnode_c (h:C.At s u w) (hr:Room 1 s):Calls Tryz.prog 62 #[.pointer (some ⟨C.b,0,none⟩)] w fun e w'=>e= .returned (.int .i64 s.nodes)∧C.At s.node u w'∧Made C.b u u w w':=
 node_any h hr.1 (by obtain⟨h1,h2,_⟩:=hr;omega)
end
theorem in0_8 (k:Int) (h0:0≤k) (h1:k≤255):in8 k:=⟨h0,by omega⟩
theorem in0_64 (k:Int) (h0:0≤k) (h1:k≤255):in64 k:=⟨by omega,by omega⟩
structure Boxes (C:FgC) (K:Nat→Prop) (p q:Nat) (at_:Int) (w:World):Prop where
 kp:K p
 kq:K q
 ptr:w.cell? ⟨p,0,none⟩=some (.pointer (some ⟨C.b,0,none⟩))
 atc:w.cell? ⟨q,3,none⟩=some (.int .i64 at_)
 in_:in64 at_
section
variable {C:FgC} {K:Nat→Prop} {p q:Nat} {at_:Int} {w:World}
theorem way_1_call {b:Nat} {W:World} {p q:Nat} {at_ f y n:Int} {R:Ending→World→Prop} (c0:W.cell? ⟨p,0,none⟩=some (.pointer (some ⟨b,0,none⟩))) (c3:W.cell? ⟨q,3,none⟩=some (.int .i64 at_))
  (hc:Calls Tryz.prog 61 #[.pointer (some ⟨b,0,none⟩),.int .i64 f,.int .i64 y,.int .i64 at_,.agg #[.int .u8 1,.int .i64 0,.int .u8 0,.slice none 0 0],.slice none 0 0] W R) (hR:∀e w',R e w'→e= .returned (.tuple #[])):
  Calls Tryz.prog 148 #[.int .i64 f,.int .i64 y,.int .i64 n,.pointer (some ⟨p,0,none⟩),.pointer (some ⟨q,0,none⟩)] W R:=by
 have HC:=hdq hc
 have HR:=hdq hR
 clear hc hR
 go_enter Tryz.func148,Tryz.ntmps148
 go_wp2_with fail
 refine HC.out.mono ?_
 intro e w2 h2
 obtain rfl:=HR.out _ _ h2
 have H2:=hdq h2
 clear h2
 go_wp2_with fail
 go_end0
 exact H2.out
theorem way_1 (hb:Boxes C K p q at_ w) (hent:Enters Tryz.prog 148):WayP C K (.func (.func 148) #[] #[.pointer (some ⟨p,0,none⟩),.pointer (some ⟨q,0,none⟩)]) (fun f y n s=>C.put s f y at_ 1 0 0 .nil) 1 w:=
 ⟨_,_,rfl,hent,fun f y n s=>grow_put C s _ _ _ _ _ _ _,fun W s u hs hl h ho hr f y n hf hy hn=>
  way_1_call (((hs ⟨p,0,none⟩ hb.kp).1).trans hb.ptr) (((hs ⟨q,3,none⟩ hb.kq).1).trans hb.atc) (fput_0 h f y at_ 1 0 0 ⟨hf,hy,in0_8 1 (by decide) (by decide),in0_64 0 (by decide) (by decide),in0_8 0 (by decide) (by decide),hb.in_⟩ hr) fun e w' h=>h.choose_spec.1⟩
theorem way_2_call {b:Nat} {W:World} {p q:Nat} {at_ f y n:Int} {R:Ending→World→Prop} (c0:W.cell? ⟨p,0,none⟩=some (.pointer (some ⟨b,0,none⟩))) (c3:W.cell? ⟨q,3,none⟩=some (.int .i64 at_))
  (hc:Calls Tryz.prog 61 #[.pointer (some ⟨b,0,none⟩),.int .i64 f,.int .i64 n,.int .i64 at_,.agg #[.int .u8 1,.int .i64 0,.int .u8 0,.slice none 0 0],.slice none 0 0] W R) (hR:∀e w',R e w'→e= .returned (.tuple #[])):
  Calls Tryz.prog 149 #[.int .i64 f,.int .i64 y,.int .i64 n,.pointer (some ⟨p,0,none⟩),.pointer (some ⟨q,0,none⟩)] W R:=by
 have HC:=hdq hc
 have HR:=hdq hR
 clear hc hR
 go_enter Tryz.func149,Tryz.ntmps149
 go_wp2_with fail
 refine HC.out.mono ?_
 intro e w2 h2
 obtain rfl:=HR.out _ _ h2
 have H2:=hdq h2
 clear h2
 go_wp2_with fail
 go_end0
 exact H2.out
theorem way_2 (hb:Boxes C K p q at_ w) (hent:Enters Tryz.prog 149):WayP C K (.func (.func 149) #[] #[.pointer (some ⟨p,0,none⟩),.pointer (some ⟨q,0,none⟩)]) (fun f y n s=>C.put s f n at_ 1 0 0 .nil) 1 w:=
 ⟨_,_,rfl,hent,fun f y n s=>grow_put C s _ _ _ _ _ _ _,fun W s u hs hl h ho hr f y n hf hy hn=>
  way_2_call (((hs ⟨p,0,none⟩ hb.kp).1).trans hb.ptr) (((hs ⟨q,3,none⟩ hb.kq).1).trans hb.atc) (fput_0 h f n at_ 1 0 0 ⟨hf,hn,in0_8 1 (by decide) (by decide),in0_64 0 (by decide) (by decide),in0_8 0 (by decide) (by decide),hb.in_⟩ hr) fun e w' h=>h.choose_spec.1⟩
end
theorem opp_at (k:Int) (h1:3≤k) (h2:k≤8) (w:World):(Instr.index 197 (.agg #[.int .u8 0,.int .u8 0,.int .u8 0,.int .u8 6,.int .u8 5,.int .u8 4,.int .u8 3,.int .u8 8,.int .u8 7]) (.int .u8 k)).run Tryz.prog w= .ok (.int .u8 (oppK k)) w:=by
 rcases(show k=3∨k=4∨k=5∨k=6∨k=7∨k=8 from by omega)with rfl|rfl|rfl|rfl|rfl|rfl<;>kernel_rfl
theorem fopp_any (k:Int) (h1:3≤k) (h2:k≤8) (w:World):Calls Tryz.prog 69 #[.int .u8 k] w fun e w'=>e= .returned (.int .u8 (oppK k))∧w=w':=by
 have hix:=opp_at k h1 h2
 obtain⟨ko,hko⟩:=nmq (oppK k)
 rw[←hko]at hix ⊢
 clear h1 h2 hko
 go_enter Tryz.func69,Tryz.ntmps69
 go_wp2_with fail
 go_ret
 exact⟨rfl,rfl⟩
section
variable {C:FgC} {K:Nat→Prop} {p q:Nat} {at_:Int} {w:World}
def Way5 (b p q:Nat) (k at_:Int) (sl:Value) (W:World):Prop:=W.cell? ⟨p,0,none⟩=some (.pointer (some ⟨b,0,none⟩))∧W.cell? ⟨q,0,none⟩=some (.int .u8 k)∧W.cell? ⟨q,1,none⟩=some sl∧W.cell? ⟨q,3,none⟩=some (.int .i64 at_)
theorem way_5_call {b p q:Nat} {k at_ f y n:Int} {W:World} {sl:Value} {N1:World→Prop} {R:Ending→World→Prop} (h1:3≤k) (h2:k≤8) (hw:Way5 b p q k at_ sl W)
  (hc:Calls Tryz.prog 61 #[.pointer (some ⟨b,0,none⟩),.int .i64 f,.int .i64 y,.int .i64 at_,.agg #[.int .u8 6,.int .i64 0,.int .u8 k,.slice none 0 0],sl] W fun e w'=>e= .returned (.tuple #[])∧N1 w')
  (hk:∀w',N1 w'→Way5 b p q k at_ sl w'∧∀w2,Fr NoT w' w2→Way5 b p q k at_ sl w2∧Calls Tryz.prog 61 #[.pointer (some ⟨b,0,none⟩),.int .i64 f,.int .i64 n,.int .i64 at_,.agg #[.int .u8 6,.int .i64 0,.int .u8 (oppK k),.slice none 0 0],sl] w2 R) (hR:∀e w',R e w'→e= .returned (.tuple #[])):
  Calls Tryz.prog 152 #[.int .i64 f,.int .i64 y,.int .i64 n,.pointer (some ⟨p,0,none⟩),.pointer (some ⟨q,0,none⟩)] W R:=by
 have HO:=hdq (fopp_any k h1 h2)
 obtain⟨c0,q0,q1,q3⟩:=hw
 obtain⟨ko,hko⟩:=nmq (oppK k)
 rw[←hko]at HO hk
 have HC:=hdq hc
 have HK:=hdq hk
 have HR:=hdq hR
 clear hc hk hR h1 h2 hko
 go_enter Tryz.func152,Tryz.ntmps152
 go_wp2_with fail
 refine HC.out.mono ?_
 rintro _ w2 ⟨rfl,n1⟩
 obtain⟨hw2,hc2⟩:=HK.out _ n1
 have HC2:=hdq hc2
 clear hc2 n1 HK HC c0 q0 q1 q3
 go_wp2_with fail
 refine wp_region_E (Way5 b p q k at_ sl) (fun i=>decide (i < 11)) (by kernel_rfl) (HC2.out _ ((Fr.refl NoT w2).drew)).1 (fun hHeld=>?_)
 refine wpE_pu 1 ?_
 try simp only[putsL]
 refine wpE_pu 2 ?_
 try simp only[putsL]
 refine wpE_pu 3 ?_
 try simp only[putsL]
 refine wpE_pu 5 ?_
 try simp only[putsL]
 refine wpE_pu 9 ?_
 try simp only[putsL]
 refine wpE_take 0 (v:=?_) rfl (by kernel_rfl) (fun _ _ _ h=>h) hHeld (by rfl) ?_ ?_;rotate_left
 ·intro wz hSz;(try dsimp only[Way5]at hSz);go_simp;try with_reducible rfl
 try simp only[putsL]
 refine wpE_take 4 (v:=?_) rfl (by kernel_rfl) (fun _ _ _ h=>h) hHeld (by rfl) ?_ ?_;rotate_left
 ·intro wz hSz;(try dsimp only[Way5]at hSz);go_simp;try with_reducible rfl
 try simp only[putsL]
 refine wpE_take 6 (v:=?_) rfl (by kernel_rfl) (fun _ _ _ h=>h) hHeld (by rfl) ?_ ?_;rotate_left
 ·intro wz hSz;(try dsimp only[Way5]at hSz);go_simp;try with_reducible rfl
 try simp only[putsL]
 refine wpE_take 10 (v:=?_) rfl (by kernel_rfl) (fun _ _ _ h=>h) hHeld (by rfl) ?_ ?_;rotate_left
 ·intro wz hSz;(try dsimp only[Way5]at hSz);go_simp;try with_reducible rfl
 try simp only[putsL]
 refine wpE_next 7 rfl (by kernel_rfl) (fun KK hK=>?_)
 go_simp
 go_at_call 69
 refine(HO.out _).mono ?_
 rintro _ w3 ⟨rfl,rfl⟩
 try dsimp only
 refine hK _ _ (fun _ h=>h) ?_
 clear hK KK
 try simp only[putsL]
 refine wpE_pu 8 ?_
 try simp only[putsL]
 refine wpE_next 11 rfl (by kernel_rfl) (fun KK hK=>?_)
 go_simp
 go_at_call 61
 refine((HC2.out _ ((Fr.refl NoT w2).drew)).2).mono ?_
 intro e w4 h4
 obtain rfl:=HR.out _ _ h4
 have H4:=hdq h4
 clear h4
 try dsimp only
 refine hK _ _ (fun h=>absurd h (by decide)) ?_
 clear hK KK
 try simp only[putsL]
 refine wpE_done (by kernel_rfl) ?_
 go_wp2_with fail
 go_end0
 exact H4.out
theorem opp_in (k:Int) (h1:3≤k) (h2:k≤8):in8 (oppK k):=by
 rcases(show k=3∨k=4∨k=5∨k=6∨k=7∨k=8 from by omega)with rfl|rfl|rfl|rfl|rfl|rfl<;>exact in0_8 _ (by decide) (by decide)
theorem way_5 {k:Int} {args:Exs} {S:Nat→Prop} {Z:Prop} {A:Option Addr} {c:Nat} (hb:Boxes C K p q at_ w) (hq:w.cell? ⟨q,0,none⟩=some (.int .u8 k)) (ha:w.cell? ⟨q,1,none⟩=some (.slice A args.len c)) (h1:3≤k) (h2:k≤8) (hKl:∀x,K x→x < w.heap.size) (hS:∀x,S x→K x∧x < C.B) (hz:szQ args) (hx:SlR (fun b o=>ExR w S Z args b o) args.len 64 A c) (hent:Enters Tryz.prog 152):
  WayP C K (.func (.func 152) #[] #[.pointer (some ⟨p,0,none⟩),.pointer (some ⟨q,0,none⟩)]) (fun f y n s=>C.put (C.put s f y at_ 6 0 k args) f n at_ 6 0 (oppK k) args) 2 w:=by
 refine⟨_,_,rfl,hent,fun f y n s=>(grow_put C s _ _ _ _ _ _ _).trans (grow_put C _ _ _ _ _ _ _ _),fun W s u hs hl h ho hr f y n hf hy hn=>?_⟩
 have hKW:∀x,K x→x < W.heap.size:=fun x hx=>ltq (hKl x hx) hl
 have hk8:in8 k:=in0_8 k (by omega) (by omega)
 have hx1:∀W',SameS K w W'→SlR (fun b o=>ExR W' S Z args b o) args.len 64 A c:=fun W' h=>hx.imp fun _ _ hx=>ExR.keep (h.mono fun b hb=>(hS b hb).1) hx
 have hw1:∀W',SameS K w W'→Way5 C.b p q k at_ (.slice A args.len c) W':=fun W' h=>⟨((h ⟨p,0,none⟩ hb.kp).1).trans hb.ptr,((h ⟨q,0,none⟩ hb.kq).1).trans hq,((h ⟨q,1,none⟩ hb.kq).1).trans ha,((h ⟨q,3,none⟩ hb.kq).1).trans hb.atc⟩
 refine way_5_call (N1:=fun w'=>∃u',C.At (C.put s f y at_ 6 0 k args) u' w'∧Made C.b u u' W w') h1 h2 (hw1 _ hs) ((fput_c h f y at_ 6 0 k ⟨hf,hy,in0_8 6 (by decide) (by decide),in0_64 0 (by decide) (by decide),hk8,hb.in_⟩ args S Z A c (fun x hx=>(hS x hx).2) hz (hx1 _ hs) (hr.less (by omega))).mono ?_) (fun w' hw'=>?_) fun e w' h=>h.choose_spec.1
 ·rintro e w2 ⟨u',rfl,hat2,hm2⟩
  exact⟨rfl,u',hat2,hm2⟩
 ·obtain⟨u1,hat,hm⟩:=hw'
  obtain⟨s1,o1⟩:=off_step hm ho hKW
  have hs1:=hs.trans s1
  refine⟨hw1 _ hs1,fun w2 hf2=>?_⟩
  have hs2:SameS K w w2:=hs1.trans (hf2.same fun x hx=>⟨ltq (hKW x hx) hm.fr.size,id⟩)
  refine⟨hw1 _ hs2,(fput_c (hat.fr0 hf2) f n at_ 6 0 (oppK k) ⟨hf,hn,in0_8 6 (by decide) (by decide),in0_64 0 (by decide) (by decide),opp_in k h1 h2,hb.in_⟩ args S Z A c (fun x hx=>(hS x hx).2) hz (hx1 _ hs2) (Room.after (N:=1) hr (grow_put C s _ _ _ _ _ _ _))).mono ?_⟩
  rintro e w3 ⟨u',rfl,hat3,hm3⟩
  exact⟨u',rfl,hat3,hm.trans ((Made.of hf2).trans hm3)⟩
end
end Go.Proofs.YtphlnpaikpjakaaGreatDoor

namespace Go.Proofs.YtphlnpaikpjakaaGreatDoor
open Go.RowKit Go.Shelf

def szN:Cds→Nat
 | .nil =>0
 | .cons _ _ of_ _ r=>2+szN of_+szN r
def CondP (C:FgC) (c:Way) (N:Nat) (W:World) (e:Ending) (w':World):Prop:=∃val,e= .returned val∧Fr NoT W w'∧WayP C (FgK C.B W.heap.size w'.heap.size) val c N w'
def CondC (C:FgC) (k:Int) (args:Exs) (of_:Cds) (at_:Int):Prop:=
 ∀(W:World) (S:Nat→Prop) (Z:Prop) (A A2:Option Addr) (c c2:Nat),C.B≤W.heap.size→(∀x,S x→x < C.B)→in64 at_→SlR (fun b o=>ExR W S Z args b o) args.len 64 A c→SlR (fun b o=>CdR W S Z of_ b o) of_.len 64 A2 c2→
  Calls Tryz.prog 111 #[.pointer (some ⟨C.b,0,none⟩),.agg #[.int .u8 k,.slice A args.len c,.slice A2 of_.len c2,.int .i64 at_]] W (CondP C (wayC C.sc C.ar k args (waysC C.sc C.ar of_) at_) (2+szN of_) W)
theorem bk_two0 (w:World) (c0 c1:Array Value) (t0 t1:TypeId):Bk ((w.alloc (.cells c0 t0)).alloc (.cells c1 t1)) w.heap.size t0 c0∧Bk ((w.alloc (.cells c0 t0)).alloc (.cells c1 t1)) (w.heap.size+1) t1 c1:=
 ⟨(Bk.new _ _ _).alloc _,Bk.new_at _ _ _ (by simp)⟩
structure Two (C:FgC) (k:Int) (A A2:Option Addr) (l c l2 c2:Nat) (at_:Int) (W w:World):Prop where
 fr:Fr NoT W w
 bp:Bk w W.heap.size 82 #[.pointer (some ⟨C.b,0,none⟩)]
 bq:Bk w (W.heap.size+1) 190 #[.int .u8 k,.slice A l c,.slice A2 l2 c2,.int .i64 at_]
section
variable {C:FgC} {k:Int} {A A2:Option Addr} {l c l2 c2:Nat} {at_:Int} {W w w':World}
theorem Two.boxes (h:Two C k A A2 l c l2 c2 at_ W w) (hin:in64 at_):Boxes C (FgK C.B W.heap.size w.heap.size) W.heap.size (W.heap.size+1) at_ w:=
 ⟨.inr ⟨lrq _,h.bp.lt⟩,.inr ⟨Nat.le_succ _,h.bq.lt⟩,h.bp.cell 0,h.bq.cell 3,hin⟩
theorem inK_lt (h:Two C k A A2 l c l2 c2 at_ W w) (hB:C.B≤W.heap.size):∀x,FgK C.B W.heap.size w.heap.size x→x < w.heap.size:=by
 have h1:=h.bp.lt
 rintro x (hx|hx)
 ·omega
 ·exact hx.2
theorem cond_more {c c':Way} {N M:Nat} {val:Value} {K:Nat→Prop} (h:WayP C K val c N w) (e:c=c') (hn:N≤M):WayP C K val c' M w:=e▸h.more (fun _ h=>h) hn
end
theorem cond_leaf (C:FgC) (k:Int) (args:Exs) (of_:Cds) (at_:Int) (hz:szQ args) (h1:1≤k) (h2:k≤8):CondC C k args of_ at_:=by
 intro W S Z A A2 c c2 hB hS hin hx hx2
 obtain⟨l,hl⟩:=nmq args.len
 obtain⟨l2,hl2⟩:=nmq of_.len
 have HX:=hdq (aiq hB (aiq hS (aiq hin hx)))
 have HLL:=hdq hl
 obtain⟨b,hb⟩:=nmq C.b
 have hT:∀w',w'=(W.alloc (.cells #[.pointer (some ⟨b,0,none⟩)] 82)).alloc (.cells #[.int .u8 k,.slice A l c,.slice A2 l2 c2,.int .i64 at_] 190)→Two C k A A2 l c l2 c2 at_ W w':=fun w' e=>by
  rw[hb]at e
  have kk:=bk_two0 W #[.pointer (some ⟨C.b,0,none⟩)] #[.int .u8 k,.slice A l c,.slice A2 l2 c2,.int .i64 at_] 82 190
  rw[←e]at kk
  exact⟨by rw[e];exact((Fr.refl _ _).alloc _).alloc _,kk.1,kk.2⟩
 have HT:=hdq hT
 have HB:=hdq hb
 rw[←hl,←hl2,←hb]
 clear hT hB hS hin hx hx2 hl hl2 hb
 rcases(show k=1∨k=2∨(3≤k∧k≤8)from by omega)with rfl|rfl|⟨h3,_⟩
 ·go_enter Tryz.func111,Tryz.ntmps111
  go_wp2_with fail
  go_ret
  have hT:=HT.out _ rfl
  exact⟨_,rfl,hT.fr,cond_more (way_1 (hT.boxes HX.out.2.2.1) (enters_of Tryz.func148 (by kernel_rfl) rfl)) (by funext f y n s;rfl) (by omega)⟩
 ·go_enter Tryz.func111,Tryz.ntmps111
  go_wp2_with fail
  go_ret
  have hT:=HT.out _ rfl
  exact⟨_,rfl,hT.fr,cond_more (way_2 (hT.boxes HX.out.2.2.1) (enters_of Tryz.func149 (by kernel_rfl) rfl)) (by funext f y n s;rfl) (by omega)⟩
 ·have k1:(k==1)=false:=by simp;omega
  have k2:(k==2)=false:=by simp;omega
  have k9:(k==9)=false:=by simp;omega
  have k10:(k==10)=false:=by simp;omega
  have k11:(k==11)=false:=by simp;omega
  have HK:=hdq (aiq h3 h2)
  clear h1 h2 h3
  go_enter Tryz.func111,Tryz.ntmps111
  go_wp2_with fail
  go_ret
  have hT:=HT.out _ rfl
  obtain⟨h3,h2⟩:=HK.out
  obtain⟨hB,hS,hin,hx⟩:=HX.out
  have hax:=(hT.bq.cell 1).trans (show _=some (.slice A args.len c)from by simp[HLL.out])
  exact⟨_,rfl,hT.fr,cond_more (way_5 (S:=S) (Z:=Z) (hT.boxes hin) (hT.bq.cell 0) hax h3 h2 (inK_lt hT hB) (fun x hx=>⟨.inl (hS x hx),hS x hx⟩) hz (hx.imp fun _ _ hx=>ExR.keep (hT.fr.same fun b hb=>⟨ltq (hS b hb) hB,id⟩) hx) (enters_of Tryz.func152 (by kernel_rfl) rfl)) (by
   funext f y n s
   simp only[wayC,FgC.put]
   rw[if_neg (by omega),if_neg (by omega),if_neg (by omega),if_neg (by omega),if_neg (by omega)]) (by omega)⟩
section
variable {C:FgC} {w2 w w':World} {c0 c1:Way} {N0 N1:Nat} {o1 o2:Option Value} {g1 g2:Option Nat} {v:Value}
end
end Go.Proofs.YtphlnpaikpjakaaGreatDoor

namespace Go.Proofs.YtphlnpaikpjakaaGreatDoor
open Go.RowKit Go.Shelf

def szM (cond:Cds) (b e:Nat):Nat:=8+szN cond+b+e
def szT:Sts→Nat
 | .nil =>0
 | .cons _ _ _ cond body els _ r=>1+szM cond (szT body) (szT els)+szT r
theorem Grow.refl (N:Nat) (s:FgS):Grow N s s:=by
 unfold Grow
 refine⟨Int.le_refl _,?_,?_⟩<;>omega
theorem grow_put' (sc ar:NoN) (s:FgS) (a b c d e f:Int) (xs:Exs):Grow 1 s (s.put sc ar a b c d e f xs):=by
 unfold Grow FgS.put
 refine⟨?_,?_,?_⟩<;>simp
 omega
def szW:Cds→Nat→Nat
 | .nil,_=>0
 | .cons _ _ of_ _ _,0=>2+szN of_
 | .cons _ _ _ _ r,i+1=>szW r i
theorem szW_le:∀(xs:Cds) (i:Nat),szW xs i≤szN xs
 | .nil,_=>lrq _
 | .cons _ _ of_ _ r,0=>by simp only[szW,szN];omega
 | .cons _ _ of_ _ r,i+1=>by have:=szW_le r i;simp only[szW,szN];omega
theorem szW_two:∀xs:Cds,szW xs 0+szW xs 1≤szN xs
 | .nil =>lrq _
 | .cons _ _ of_ _ r=>by have:=szW_le r 0;simp only[szW,szN];omega
theorem grow_ways (sc ar:NoN):∀(xs:Cds) (i:Nat) (f y n:Int) (s:FgS),Grow (szW xs i) s (nthW (waysC sc ar xs) i f y n s)
 | .nil,i,f,y,n,s=>by
  simp only[waysC,nthW,List.getD_nil]
  exact Grow.refl _ _
 | .cons k args of_ at_ r,i+1,f,y,n,s=>by
  have:=grow_ways sc ar r i f y n s
  simp only[waysC,nthW,List.getD_cons_succ]at this ⊢
  exact this
 | .cons k args of_ at_ r,0,f,y,n,s=>by
  have h:=grow_ways sc ar of_
  have h2:=szW_two of_
  have h3:=szW_le of_ 0
  simp only[waysC,nthW,List.getD_cons_zero,szW]
  unfold wayC
  split
  ·exact(grow_put' sc ar s _ _ _ _ _ _ _).mono (by omega)
  split
  ·exact(grow_put' sc ar s _ _ _ _ _ _ _).mono (by omega)
  split
  ·exact(h 0 f n y s).mono (by omega)
  split
  ·exact(((grow_node s).trans (h 0 _ _ _ _)).trans (h 1 _ _ _ _)).mono (by omega)
  split
  ·exact(((grow_node s).trans (h 0 _ _ _ _)).trans (h 1 _ _ _ _)).mono (by omega)
  ·exact((grow_put' sc ar s _ _ _ _ _ _ _).trans (grow_put' sc ar _ _ _ _ _ _ _ _)).mono (by omega)
theorem grow_way0 (sc ar:NoN) (xs:Cds) (f y n:Int) (s:FgS):Grow (szN xs) s (nthW (waysC sc ar xs) 0 f y n s):=(grow_ways sc ar xs 0 f y n s).mono (szW_le xs 0)
theorem grow_stm (sc ar:NoN) (k:Int) (nm:ByteArray) (args:Exs) (cond:Cds) (b e:List Mk) (nb ne:Nat) (a f t:Int) (s:FgS) (hb:∀f t a s,Grow (1+nb) s (blkF sc ar b f t a s)) (he:∀f t a s,Grow (1+ne) s (blkF sc ar e f t a s)):
  Grow (szM cond nb ne) s (stmF sc ar k nm args (waysC sc ar cond) b e a f t s):=by
 have h1:=fun a b c d e f g s=>grow_put' sc ar s a b c d e f g
 have h2:=grow_way0 sc ar cond
 unfold stmF szM
 split
 ·exact(h1 _ _ _ _ _ _ _ _).mono (by omega)
 split
 ·exact(h1 _ _ _ _ _ _ _ _).mono (by omega)
 split
 ·exact(h1 _ _ _ _ _ _ _ _).mono (by omega)
 split
 ·exact(h1 _ _ _ _ _ _ _ _).mono (by omega)
 split
 ·exact(((grow_node s).trans (h2 _ _ _ _)).trans (h1 _ _ _ _ _ _ _ _)).mono (by omega)
 split
 ·exact(((grow_node s).trans (h2 _ _ _ _)).trans (h1 _ _ _ _ _ _ _ _)).mono (by omega)
 split
 ·exact(((((grow_node s).trans (grow_node _)).trans (h2 _ _ _ _)).trans (hb _ _ _ _)).trans (he _ _ _ _)).mono (by omega)
 split
 ·exact(((((((grow_node s).trans (grow_node _)).trans (grow_node _)).trans (h1 _ _ _ _ _ _ _ _)).trans (h1 _ _ _ _ _ _ _ _)).trans (h2 _ _ _ _)).trans (hb _ _ _ _)).mono (by omega)
 ·exact Grow.refl _ _
theorem grow_blk (sc ar:NoN):∀(xs:Sts) (f t a:Int) (s:FgS),Grow (1+szT xs) s (blkF sc ar (mksS sc ar xs) f t a s)
 | .nil,f,t,a,s=>by
  simp only[mksS,blkF]
  exact(grow_put' sc ar s _ _ _ _ _ _ _).mono (by omega)
 | .cons k nm args cond body els at_ .nil,f,t,a,s=>by
  simp only[mksS,blkF]
  exact(grow_stm sc ar k nm args cond _ _ (szT body) (szT els) at_ f t s (grow_blk sc ar body) (grow_blk sc ar els)).mono (by simp only[szT];omega)
 | .cons k nm args cond body els at_ (.cons k' nm' args' cond' body' els' at' r),f,t,a,s=>by
  have h:=grow_blk sc ar (.cons k' nm' args' cond' body' els' at' r)
  simp only[mksS,blkF]at h ⊢
  exact(((grow_node s).trans (grow_stm sc ar k nm args cond _ _ (szT body) (szT els) at_ f s.nodes s.node (grow_blk sc ar body) (grow_blk sc ar els))).trans (h _ _ _ _)).mono (by simp only[szT];omega)
def Cur (C:FgC) (u:Value) (W:World) (s:FgS) (w:World):Prop:=∃u',C.At s u' w∧Made C.b u u' W w
section
variable {C:FgC} {u:Value} {s s0:FgS} {W w w':World} {N:Nat}
theorem Cur.start (h:C.At s u w):Cur C u w s w:=⟨u,h,Made.refl _ _ _⟩
theorem Cur.fr0 (h:Cur C u W s w) (hf:Fr NoT w w'):Cur C u W s w':=by
 obtain⟨u',h1,h2⟩:=h
 exact⟨u',h1.fr0 hf,h2.trans (Made.of hf)⟩
theorem Cur.bk {g:Nat} {t:TypeId} {cs:Array Value} (h:Cur C u W s w) (hk:Bk W g t cs) (hn:¬MOwn C.b u g):Bk w g t cs:=by
 obtain⟨u',h1,h2⟩:=h
 exact(h2.bk hk hn).1
theorem Cur.same (h:Cur C u W s w) (h0:C.At s0 u W) {S:Nat→Prop} (hS:∀x,S x→x < C.B):SameS S W w:=by
 obtain⟨u',h1,h2⟩:=h
 exact h2.same h0 hS
theorem Cur.base (h:Cur C u W s w):C.B≤w.heap.size:=by
 obtain⟨u',h1,h2⟩:=h
 exact MkS.base h1
def CurP (C:FgC) (u:Value) (W:World) (s:FgS) (e:Ending) (w':World):Prop:=e= .returned (.tuple #[])∧Cur C u W s w'
theorem Cur.of {s':FgS} {e:Ending} {u':Value} (h2:Made C.b u u' W w) (h:MkP C s' u' w e w'):CurP C u W s' e w':=by
 obtain⟨u2,e1,h3,h4⟩:=h
 exact⟨e1,u2,h3,h2.trans h4⟩
theorem Cur.node (h:Cur C u W s w) (hr:Room 1 s):Calls Tryz.prog 62 #[.pointer (some ⟨C.b,0,none⟩)] w fun e w'=>e= .returned (.int .i64 s.nodes)∧Cur C u W s.node w':=by
 obtain⟨u',h1,h2⟩:=h
 exact(fnode_c h1 hr).mono fun e w' h=>⟨h.1,u',h.2.1,h2.trans h.2.2⟩
theorem Cur.put (h:Cur C u W s w) (from_ to_ at_ kind n cmp:Int) (hok:in64 from_∧in64 to_∧in8 kind∧in64 n∧in8 cmp∧in64 at_) (xs:Exs) (S:Nat→Prop) (Z:Prop) (A:Option Addr) (c:Nat) (hS:∀x,S x→x < C.B) (hz:szQ xs) (hx:SlR (fun b o=>ExR w S Z xs b o) xs.len 64 A c) (hr:Room 1 s):
  Calls Tryz.prog 61 #[.pointer (some ⟨C.b,0,none⟩),.int .i64 from_,.int .i64 to_,.int .i64 at_,.agg #[.int .u8 kind,.int .i64 n,.int .u8 cmp,.slice none 0 0],.slice A xs.len c] w (CurP C u W (s.put C.sc C.ar from_ to_ at_ kind n cmp xs)):=by
 obtain⟨u',h1,h2⟩:=h
 exact(fput_c h1 from_ to_ at_ kind n cmp hok xs S Z A c hS hz hx hr).mono fun e w' h=>Cur.of h2 h
theorem Cur.put0 (h:Cur C u W s w) (from_ to_ at_ kind n cmp:Int) (hok:in64 from_∧in64 to_∧in8 kind∧in64 n∧in8 cmp∧in64 at_) (hr:Room 1 s):
  Calls Tryz.prog 61 #[.pointer (some ⟨C.b,0,none⟩),.int .i64 from_,.int .i64 to_,.int .i64 at_,.agg #[.int .u8 kind,.int .i64 n,.int .u8 cmp,.slice none 0 0],.slice none 0 0] w (CurP C u W (s.put C.sc C.ar from_ to_ at_ kind n cmp .nil)):=by
 obtain⟨u',h1,h2⟩:=h
 exact(fput_0 h1 from_ to_ at_ kind n cmp hok hr).mono fun e w' h=>Cur.of h2 h
def WayN (C:FgC) (u:Value) (W:World) (s:FgS) (N:Nat) (val:Value) (c:Way) (w:World):Prop:=
 ∃g caps,val= .func (.func g) #[] caps∧Enters Tryz.prog g∧(Room N s→∀f y n,in64 f→in64 y→in64 n→Calls Tryz.prog g (#[.int .i64 f,.int .i64 y,.int .i64 n]++caps) w (CurP C u W (c f y n s)))
theorem Cur.cond (h:Cur C u W s w) (h0:C.At s0 u W) (k:Int) (args:Exs) (of_:Cds) (at_:Int) (hc:CondC C k args of_ at_) (S:Nat→Prop) (Z:Prop) (A A2:Option Addr) (c c2:Nat) (hS:∀x,S x→x < C.B) (hin:in64 at_) (hx:SlR (fun b o=>ExR W S Z args b o) args.len 64 A c) (hx2:SlR (fun b o=>CdR W S Z of_ b o) of_.len 64 A2 c2):
  Calls Tryz.prog 111 #[.pointer (some ⟨C.b,0,none⟩),.agg #[.int .u8 k,.slice A args.len c,.slice A2 of_.len c2,.int .i64 at_]] w fun e w'=>∃val,e= .returned val∧Cur C u W s w'∧WayN C u W s (2+szN of_) val (wayC C.sc C.ar k args (waysC C.sc C.ar of_) at_) w':=by
 have hs:=h.same h0 hS
 refine(hc w S Z A A2 c c2 h.base hS hin (hx.imp fun _ _ hx=>ExR.keep hs hx) (hx2.imp fun _ _ hx=>CdR.keep hs hx)).mono ?_
 rintro e w' ⟨val,rfl,hf,g,caps,hv,hg,_,hcall⟩
 obtain⟨u',k1,k2⟩:=h
 refine⟨val,rfl,⟨u',k1.fr0 hf,k2.trans (Made.of hf)⟩,g,caps,hv,hg,fun hr f y n hf' hy hn=>(hcall w' s u' (SameS.refl _ _) (lrq _) (k1.fr0 hf) (fun x hx=>?_) hr f y n hf' hy hn).mono fun e w3 h=>Cur.of (k2.trans (Made.of hf)) h⟩
 rcases hx with hx|hx
 ·exact MkS.low_ k1 hx
 ·exact MkS.new k1 hx.1
end
end Go.Proofs.YtphlnpaikpjakaaGreatDoor
