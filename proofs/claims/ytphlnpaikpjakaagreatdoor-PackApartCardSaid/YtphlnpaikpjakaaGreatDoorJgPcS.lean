/-
  parse: conditions as values; what joins two.
-/
import Derived.Test.YtphlnpaikpjakaaGreatDoorJgPaV
set_option linter.unusedVariables false
set_option linter.unusedSimpArgs false
set_option maxHeartbeats 3200000
set_option maxRecDepth 100000
namespace Go.Proofs.YtphlnpaikpjakaaGreatDoor
open Go.RowKit Go.Shelf

def joinX (kind:Int) (k at_:Int) (a b:Cn):Cn:=⟨kind,.nil,a.cons (b.cons .nil),at_⟩
def cdV (k:Int) (A:Option Addr) (l c:Nat) (B:Option Addr) (m e:Nat) (at_:Int):Value:= .agg #[.int .u8 k,.slice A l c,.slice B m e,.int .i64 at_]
def CdVS (w:World) (S:Nat→Prop) (v:Value) (x:Cn):Prop:=
 in8 x.k∧in64 x.at_∧∃A c B e,v=cdV x.k A x.args.len c B x.of_.len e x.at_∧SlR (ExR w S False x.args) x.args.len 64 A c∧SlR (CdR w S False x.of_) x.of_.len 64 B e
def CdV (w:World) (L:Nat) (v:Value) (x:Cn):Prop:=CdVS w (New L w) v x
theorem CdVS.keep {w w':World} {S S':Nat→Prop} {v:Value} {x:Cn} (h:CdVS w S v x) (hf:SameS S w w') (hs:∀b,S b→S' b):CdVS w' S' v x:=by
 obtain⟨h1,h2,A,c,B,e,he,ha,ho⟩:=h
 exact⟨h1,h2,A,c,B,e,he,ha.imp fun _ _ hx=>ExR.more hs (ExR.keep hf hx),ho.imp fun _ _ hx=>CdR.more hs (CdR.keep hf hx)⟩
theorem CdVS.fr {w w':World} {S S' T:Nat→Prop} {v:Value} {x:Cn} (h:CdVS w S v x) (hf:Fr T w w') (ht:∀b,S b→b < w.heap.size∧¬T b) (hs:∀b,S b→S' b):CdVS w' S' v x:=h.keep (hf.same ht) hs
theorem CdV.fr {w w':World} {L:Nat} {T:Nat→Prop} {v:Value} {x:Cn} (h:CdV w L v x) (hf:Fr T w w') (ht:∀b,L≤b→b < w.heap.size→¬T b):CdV w' L v x:=
 CdVS.fr h hf (fun b hb=>⟨hb.2,ht b hb.1 hb.2⟩) fun b hb=>⟨hb.1,ltq hb.2 hf.size⟩
theorem CdV.low {w:World} {L L':Nat} {v:Value} {x:Cn} (h:CdV w L v x) (hl:L'≤L):CdV w L' v x:=
 CdVS.keep h (SameS.refl _ _) fun b hb=>⟨leq9 hl hb.1,hb.2⟩
theorem CdVS.parts {w:World} {S:Nat→Prop} {v:Value} {x:Cn} (h:CdVS w S v x):∃A c B e,v=cdV x.k A x.args.len c B x.of_.len e x.at_:=by
 obtain⟨_,_,A,c,B,e,he,_⟩:=h
 exact⟨A,c,B,e,he⟩
theorem cdR_one {w:World} {S:Nat→Prop} {g:Nat} {t:TypeId} {x:Cn} {A B:Option Addr} {c e:Nat} (hb:Bk w g t #[.int .u8 x.k,.slice A x.args.len c,.slice B x.of_.len e,.int .i64 x.at_]) (hg:S g)
  (h1:in8 x.k∧in64 x.at_) (hx:SlR (ExR w S False x.args) x.args.len 64 A c) (hxo:SlR (CdR w S False x.of_) x.of_.len 64 B e):CdR w S False (x.cons .nil) g 0:=
 ⟨⟨hg,fun h=>absurd h id,h1.1,h1.2,hb.cell 0,hb.cell 3⟩,⟨A,c,hb.cell 1,hx⟩,⟨B,e,hb.cell 2,hxo⟩,trivial⟩
theorem join_any (f:Int) (w:World):Calls Tryz.prog 222 #[.int .u8 f] w fun e w'=>e= .returned (.func (.func 223) #[] #[.pointer (some ⟨w.heap.size,0,none⟩)])∧w'=w.alloc (.cells #[.int .u8 f] 5):=by
 have hmf:= @makeF Tryz.prog
 go_enter Tryz.func222,Tryz.ntmps222
 go_wp2
 go_ret
 exact⟨rfl,rfl⟩
def CdP (C:Pcx) (d:Nat) (r:PR Cn) (W:World) (e:Ending) (w':World):Prop:=
 match r with
 | .err c a=>e=wrongE c a∧Fr C.T W w'
 | .ok x l=>∃v,e= .returned v∧CdV w' W.heap.size v x∧PaAt C w' l d∧Fr C.T W w'
/-! plain conditions -/
def cmpS:List (List UInt8):= [[60], [60,61], [62], [62,61], [61,61], [33,61]]
def notS:List (List UInt8):= [[33], [91], [116,114,117,101], [102,97,108,115,101]]
def condOf (nt:List Tk→PR Cn) (l:List Tk):PR Cn:=chainP (chainP nt (joinX 10) [[38,38]]) (joinX 11) [[124,124]] l
def cmpP (n:Nat) (l:List Tk):PR Cn:=
 (exprP n l).then fun x r=>if isP cmpS r < 0 then .err 90 (hdT r).at_ else(exprP n r.tail).then fun y q=> .ok ⟨3+isP cmpS r,x.cons (y.cons .nil),.nil,(hdT r).at_⟩ q
def notP:Nat→List Tk→PR Cn
 |n,l=>
  if isP notS l=0 then(match n with
   |0=> .err 91 (hdT l).at_
   |n+1=>(notP n l.tail).then fun c r=> .ok ⟨9,.nil,c.cons .nil,(hdT l).at_⟩ r)
  else if isP notS l=1 then(match n with
   |0=> .err 91 (hdT l).at_
   |n+1=>(condOf (notP n) l.tail).then fun c r=>(takeP [93] r).then fun _ r=> .ok c r)
  else if isP notS l=2∨isP notS l=3 then .ok ⟨1+(isP notS l - 2),.nil,.nil,(hdT l).at_⟩ l.tail
  else cmpP n l
def condP (n:Nat) (l:List Tk):PR Cn:=condOf (notP n) l

theorem cdP_box {C:Pcx} {w WA w7 w9:World} {d rb:Nat} {x:Cn} {l:List Tk} {A:Option Addr} {c:Nat} {B:Option Addr} {pc:Nat} (hL:C.P < w.heap.size∧C.TB < w.heap.size∧C.W0.heap.size≤w.heap.size) (hA:Fr NoT w WA) (hr:w.heap.size≤rb) (hr2:rb < WA.heap.size)
  (hv:CdV w7 WA.heap.size (cdV x.k A x.args.len c B x.of_.len pc x.at_) x) (hp:PaAt C w7 l d) (hf:Fr C.T WA w7)
  (h9:w9=(((w7.setCell ⟨rb,0,none⟩ (.int .u8 x.k)).setCell ⟨rb,1,none⟩ (.slice A x.args.len c)).setCell ⟨rb,2,none⟩ (.slice B x.of_.len pc)).setCell ⟨rb,3,none⟩ (.int .i64 x.at_)):
  CdP C d (.ok x l) w (.returned (cdV x.k A x.args.len c B x.of_.len pc x.at_)) w9:=by
 have hf9:Fr (fun b=>b=rb) w7 w9:=by rw[h9];exact Fr.own (Fr.own (Fr.own (Fr.own (Fr.refl _ _) _ _) _ _) _ _) _ _
 have h1:=hA.size
 unfold CdP
 refine⟨_,rfl,(CdV.fr hv hf9 fun b h2 h3 e=>?_).low (by omega),hp.fr hf9 (fun e=>?_) (fun e=>?_) (fun i hi e=>?_),?_⟩
 ·have e:b=rb:=e
  omega
 ·have e:C.P=rb:=e
  omega
 ·have e:C.TB=rb:=e
  omega
 ·have e:i=rb:=e
  omega
 ·rw[h9]
  have:=hA.any.trans hf
  exact Fr.high (Fr.high (Fr.high (Fr.high this (by omega) _ _) (by omega) _ _) (by omega) _ _) (by omega) _ _
def andS:List (List UInt8):= [[38,38]]
def orS:List (List UInt8):= [[124,124]]
def allP (n:Nat) (l:List Tk):PR Cn:=chainP (notP n) (joinX 10) andS l
theorem condP_all (n:Nat) (l:List Tk):condP n l=chainP (allP n) (joinX 11) orS l:=rfl
-- all

theorem is4_any (C:Pcx) (signs:List (List UInt8)) (l:List Tk) (d:Nat) (w:World) (h:PaAt C (w.alloc (.cells (strA signs) 9)) l d) (n:Nat) (hn:n=signs.length) (hsl:signs.length≤100):
  Calls Tryz.prog 90 #[.pointer (some ⟨C.P,0,none⟩),.slice (some ⟨w.heap.size,0,none⟩) n n] (w.alloc (.cells (strA signs) 9)) fun e w'=>e= .returned (.int .i64 (isP signs l))∧w.alloc (.cells (strA signs) 9)=w':=by
 subst hn
 exact is_any C signs l d w.heap.size 0 _ _ h (by omega) fun j hj=>by
  rw[Nat.zero_add,(Bk.new w _ _).cell j];simp[strA,hj]
theorem notP_c {n:Nat} {l:List Tk} (h:isP notS l < 0):notP n l=cmpP n l:=by
 cases n<;>(unfold notP;rw[if_neg (by omega),if_neg (by omega),if_neg (by omega)])
theorem not_boxes (C:Pcx) (a:Int) (w w1:World) (hw:w1=((w.alloc (.cells #[.pointer (some ⟨C.P,0,none⟩)] 74)).alloc (.cells #[.int .u8 0,.slice none 0 0,.slice none 0 0,.int .i64 0] 190)).alloc (.cells #[.int .i64 a] 3)):
  Fr NoT w w1∧w1.heap.size=w.heap.size+3∧Bk w1 w.heap.size 74 #[.pointer (some ⟨C.P,0,none⟩)]∧Bk w1 (w.heap.size+1) 190 #[.int .u8 0,.slice none 0 0,.slice none 0 0,.int .i64 0]∧Bk w1 (w.heap.size+2) 3 #[.int .i64 a]:=by
 subst hw
 exact⟨(((Fr.refl _ _).alloc _).alloc _).alloc _,by simp,((Bk.new _ _ _).alloc _).alloc _,(Bk.new_at _ _ _ (by simp)).alloc _,Bk.new_at _ _ _ (by simp)⟩

theorem cmp_fin {C:Pcx} {w w5 w7:World} {rb d L:Nat} {k a:Int} {x y:Ex} {A A2:Option Addr} {c1 c2:Nat} {r:List Tk} (hL:C.P < w.heap.size∧C.TB < w.heap.size∧C.W0.heap.size≤w.heap.size) (h8:in8 k) (hat:in64 a) (hrb:w.heap.size≤rb) (hrL:rb < L) (hLw:w.heap.size≤L)
  (hx:ExV w5 L (exV x.k x.nm x.n A x.args.len c1 x.at_) x) (hf57:Fr C.T w5 w7) (hy:ExV w7 w5.heap.size (exV y.k y.nm y.n A2 y.args.len c2 y.at_) y) (hL5:L≤w5.heap.size)
  (hp:PaAt C w7 r d) (hf:Fr C.T w w7) (w9:World)
  (h9:w9=((((w7.setCell ⟨rb,0,none⟩ (.int .u8 k)).setCell ⟨rb,1,none⟩ (.slice (some ⟨w7.heap.size,0,none⟩) 2 2)).setCell ⟨rb,2,none⟩ (.slice none 0 0)).setCell ⟨rb,3,none⟩ (.int .i64 a)).alloc (.cells #[.int .u8 x.k,.string x.nm,.int .i64 x.n,.slice A x.args.len c1,.int .i64 x.at_,.int .u8 y.k,.string y.nm,.int .i64 y.n,.slice A2 y.args.len c2,.int .i64 y.at_] 68)):
  CdP C d (.ok ⟨k,x.cons (y.cons .nil),.nil,a⟩ r) w (.returned (cdV k (some ⟨w7.heap.size,0,none⟩) 2 2 none 0 0 a)) w9:=by
 obtain⟨w8,hw8⟩:=nmq (((((w7.setCell ⟨rb,0,none⟩ (.int .u8 k)).setCell ⟨rb,1,none⟩ (.slice (some ⟨w7.heap.size,0,none⟩) 2 2)).setCell ⟨rb,2,none⟩ (.slice none 0 0)).setCell ⟨rb,3,none⟩ (.int .i64 a)))
 rw[←hw8]at h9
 have hf8:Fr (fun b=>b=rb) w7 w8:=by rw[hw8];exact Fr.own (Fr.own (Fr.own (Fr.own (Fr.refl _ _) _ _) _ _) _ _) _ _
 have hz:w8.heap.size=w7.heap.size:=by rw[hw8];simp
 have hf9:Fr (fun b=>b=rb) w7 w9:=by rw[h9];exact hf8.alloc _
 have hs9:w9.heap.size=w7.heap.size+1:=by rw[h9];simp[hz]
 have hs57:=hf57.size
 have hsw:=hf.size
 obtain⟨x1,x2,x3,Ax,cx,ex,hsx⟩:=hx
 obtain⟨y1,y2,y3,Ay,cy,ey,hsy⟩:=hy
 simp only[exV,Value.agg.injEq,Array.mk.injEq,List.cons.injEq,Value.slice.injEq,true_and,and_true]at ex ey
 obtain⟨rfl,rfl⟩:=ex
 obtain⟨rfl,rfl⟩:=ey
 have hX:∀b,New L w5 b→(b < w5.heap.size∧¬(b=C.P∨b=rb))∧New w.heap.size w9 b:=fun b hb=>by
  have h1:L≤b:=hb.1
  have h2:b < w5.heap.size:=hb.2
  exact⟨⟨h2,by omega⟩,by omega,by omega⟩
 have hY:∀b,New w5.heap.size w7 b→(b < w7.heap.size∧¬b=rb)∧New w.heap.size w9 b:=fun b hb=>by
  have h1:w5.heap.size≤b:=hb.1
  have h2:b < w7.heap.size:=hb.2
  exact⟨⟨h2,by omega⟩,by omega,by omega⟩
 have hf59:Fr (fun b=>b=C.P∨b=rb) w5 w9:=(hf57.mono fun i _ h=>Or.inl h).trans (hf9.mono fun i _ h=>Or.inr h)
 refine⟨_,rfl,⟨h8,hat,some ⟨w7.heap.size,0,none⟩,2,none,0,rfl,⟨lrq 2,sl2,fun _=>⟨w7.heap.size,0,rfl,?_⟩⟩,⟨lrq 0,sl0,fun h=>absurd h (by exact Nat.lt_irrefl 0)⟩⟩,hp.fr hf9 (fun e=>?_) (fun e=>?_) (fun i hi e=>?_),?_⟩
 ·refine exR_two (by rw[h9];exact Bk.new_at _ _ _ hz) ⟨by omega,by omega⟩ ⟨x1,x2,x3⟩ ⟨y1,y2,y3⟩ (hsx.imp fun _ _ h=>?_) (hsy.imp fun _ _ h=>?_)
  ·exact ExR.more (fun b hb=>(hX b hb).2) (ExR.keep (hf59.same fun b hb=>(hX b hb).1) h)
  ·exact ExR.more (fun b hb=>(hY b hb).2) (ExR.keep (hf9.same fun b hb=>(hY b hb).1) h)
 ·have e:C.P=rb:=e
  omega
 ·have e:C.TB=rb:=e
  omega
 ·have e:i=rb:=e
  omega
 ·rw[h9,hw8]
  exact(Fr.high (Fr.high (Fr.high (Fr.high hf hrb _ _) hrb _ _) hrb _ _) hrb _ _).alloc _
theorem cmpP_x {n:Nat} {l r:List Tk} {x:Ex} (h:exprP n l= .ok x r):cmpP n l=if isP cmpS r < 0 then .err 90 (hdT r).at_ else(exprP n r.tail).then fun y q=> .ok ⟨3+isP cmpS r,x.cons (y.cons .nil),.nil,(hdT r).at_⟩ q:=by
 unfold cmpP;rw[h];rfl

def CdK (C:Pcx) (d:Nat) (x:Cn) (l:List Tk) (W:World) (e:Ending) (w':World):Prop:=∃v,e= .returned v∧CdV w' W.heap.size v x∧PaAt C w' l d∧Fr C.T W w'
def cmpQ (l:List Tk):PR Cn:=if 0≤isP notS l then .err 0 0 else
 (exprQ l).then fun x r=>if isP cmpS r < 0 then .err 0 0 else(exprQ r.tail).then fun y q=> .ok ⟨3+isP cmpS r,x.cons (y.cons .nil),.nil,(hdT r).at_⟩ q
def condQ (l:List Tk):PR Cn:=(cmpQ l).then fun c r=>if isP andS r < 0∧isP orS r < 0 then .ok c r else .err 0 0
theorem cmpQ_ok {l r:List Tk} {c:Cn} (h:cmpQ l= .ok c r):isP notS l < 0∧∃x r1 y,exprQ l= .ok x r1∧0≤isP cmpS r1∧exprQ r1.tail= .ok y r∧c=⟨3+isP cmpS r1,x.cons (y.cons .nil),.nil,(hdT r1).at_⟩:=by
 unfold cmpQ at h
 split at h
 ·simp at h
 ·rename_i h0
  obtain⟨x,r1,h1,h2⟩:=PR.then_ok h
  split at h2
  ·simp at h2
  ·rename_i h3
   obtain⟨y,q,h4,h5⟩:=PR.then_ok h2
   simp only[PR.ok.injEq]at h5
   exact⟨by omega,x,r1,y,h1,by omega,by rw[←h5.2];exact h4,h5.1.symm⟩
theorem chainC0 (C:Pcx) (signs:List (List UInt8)) (g:Nat) (fst cap:Array Value) (F:Value) (b c:Nat) (l:List Tk) (d:Nat) (w:World) (X:Cn) (Rr:List Tk) (hk:C.Ok) (h:PaAt C w l d)
  (hsl:signs.length≤3) (hc:∀j,j < signs.length→w.cell? ⟨b,j,none⟩=some (.string ⟨(signs.getD j []).toArray⟩)) (hbl:b < w.heap.size) (hbP:b≠C.P) (hneg:isP signs Rr < 0)
  (hent:Enters Tryz.prog g) (hone:∀W,Fr NoT w W→Calls Tryz.prog g (fst++cap) W (CdK C d X Rr W)):
  Calls Tryz.prog 225 #[.pointer (some ⟨C.P,0,none⟩),.func (.func g) fst cap,F,.slice (some ⟨b,0,none⟩) signs.length c] w (CdK C d X Rr w):=by
 have HL:=hdq h.lts
 have hq:=hone _ ((Fr.refl NoT w).alloc (.cells #[.int .u8 0,.slice none 0 0,.slice none 0 0,.int .i64 0] 190))
 unfold CdK at hq
 obtain⟨n,hn⟩:=nmq signs.length
 have HQ:=hdq hq
 have HC:=hdq hc
 have HN:=hdq hn
 rw[←hn]at hsl ⊢
 obtain⟨k,hkk⟩:=nmq (isP signs Rr)
 have HKK:=hdq hkk
 rw[←hkk]at hneg
 have hne:¬0≤k:=by omega
 unfold Enters at hent
 clear h hone hc hn hq hk hkk hneg
 go_enter Tryz.func225,Tryz.ntmps225
 go_wp2_with fail
 try simp only[Array.append_empty]
 refine HQ.out.mono ?_
 rintro _ w2 ⟨v,rfl,hv,hpa,hf⟩
 obtain⟨A,c1,B,pc1,rfl⟩:=CdVS.parts hv
 unfold cdV
 obtain⟨bx,hbx⟩:=nmq w2.heap.size
 obtain⟨w3,hw3⟩:=nmq (w2.alloc (.cells #[.int .u8 X.k,.slice A X.args.len c1,.slice B X.of_.len pc1,.int .i64 X.at_] 190))
 have hf3:Fr NoT w2 w3:=by rw[hw3];exact(Fr.refl _ _).alloc _
 have hs2:=hf.size
 rw[World.size_alloc]at hs2
 have hfw:Fr C.T w w3:=(((Fr.refl C.T w).alloc _).trans hf).trans hf3.any
 have hp3:=hpa.fr hf3 id id fun _ _=>id
 have hbk:=(Bk.new w 190 #[.int .u8 0,.slice none 0 0,.slice none 0 0,.int .i64 0]).fr hf (fun e=>by have e:w.heap.size=C.P:=e;have:=HL.out.1;omega)
 have hb0:=hbk.fr0 hf3
 have hbb:Bk w3 bx 190 #[.int .u8 X.k,.slice A X.args.len c1,.slice B X.of_.len pc1,.int .i64 X.at_]:=by rw[hw3,hbx];exact Bk.new _ _ _
 have hIs:Calls Tryz.prog 90 #[.pointer (some ⟨C.P,0,none⟩),.slice (some ⟨b,0,none⟩) n c] w3 fun e w'=>e= .returned (.int .i64 k)∧w3=w':=by
  have:=is_any C signs Rr d b 0 c w3 hp3 (by rw[←HN.out];omega) (fun j hj=>by
   rw[Nat.zero_add]
   exact(hfw.cell (p:=⟨b,j,none⟩) hbl hbP).trans (HC.out j hj))
  rw[←HN.out,←HKK.out]at this
  exact this
 have HIS:=hdq hIs
 have HBX:=hdq hbx
 have HW3:=hdq hw3
 have HV:=hdq hv
 have HP3:=hdq hp3
 have HF3:=hdq hf3
 have HFW:=hdq hfw
 have HB0:=hdq hb0
 have HBB:=hdq hbb
 have HS2:=hdq hs2
 have H2:=hdq hpa
 clear hIs hbx hw3 hv hp3 hf3 hfw hb0 hbk hbb hs2 hpa hf
 go_wp2_with fail
 rw[←HW3.out]
 refine HIS.out.mono ?_
 rintro _ w4 ⟨rfl,rfl⟩
 rw[←HBX.out]
 go_wp2_with fail
 go_loopw [10] (fun v wr=>v= .int .i64 k∧wr=w3) (fun _ _=>0)
 case atStart=>exact⟨rfl,rfl⟩
 case round=>
  obtain⟨rfl,rfl⟩:=hrel
  have b1:=HBB.out.cell 0
  have b2:=HBB.out.cell 1
  have b3:=HBB.out.cell 2
  have b4:=HBB.out.cell 3
  have g0:=HB0.out.frozen 0
  have g1:=HB0.out.frozen 1
  have g2:=HB0.out.frozen 2
  have g3:=HB0.out.frozen 3
  have q0:=HB0.out.cell 0
  have q1:=HB0.out.cell 1
  have q2:=HB0.out.cell 2
  have q3:=HB0.out.cell 3
  have hlt0:=HB0.out.lt
  simp only[getsL]at b1 b2 b3 b4 q0 q1 q2 q3
  go_wp2_with fail
  refine bodyPost_ret (v:=cdV X.k A X.args.len c1 B X.of_.len pc1 X.at_) (by simp[results,Tryz.results225,go_sem,cdV,q0,q1,q2,q3,hlt0]) rfl ?_
  have hfr:Fr (fun b=>b=w.heap.size) wr ((((wr.setCell ⟨w.heap.size,0,none⟩ (.int .u8 X.k)).setCell ⟨w.heap.size,1,none⟩ (.slice A X.args.len c1)).setCell ⟨w.heap.size,2,none⟩ (.slice B X.of_.len pc1)).setCell ⟨w.heap.size,3,none⟩ (.int .i64 X.at_)):=by
   exact Fr.own (Fr.own (Fr.own (Fr.own (Fr.refl _ _) _ _) _ _) _ _) _ _
  have hv:=HV.out
  rw[World.size_alloc]at hv
  refine⟨_,rfl,(CdV.fr hv (HF3.out.any.trans hfr) fun b h1 h2 e=>by have e:b=w.heap.size:=e;omega).low (by omega),?_,?_⟩
  ·refine HP3.out.fr hfr (fun e=>?_) (fun e=>?_) (fun i hi e=>?_)<;>have:=HL.out<;>omega
  ·exact Fr.high (Fr.high (Fr.high (Fr.high HFW.out (lrq _) _ _) (lrq _) _ _) (lrq _) _ _) (lrq _) _ _
theorem not_ok (C:Pcx) (l:List Tk) (d:Nat) (w:World) (Xc:Cn) (Rr:List Tk) (hok:cmpQ l= .ok Xc Rr) (hk:C.Ok) (h:PaAt C w l d):
  Calls Tryz.prog 226 #[.pointer (some ⟨C.P,0,none⟩)] w (CdK C d Xc Rr w):=by
 obtain⟨hk0,x,r,y,o1,o2,o3,rfl⟩:=cmpQ_ok hok
 clear hok
 have hL:=h.lts
 obtain⟨j,cap,m,hm0,hm1,hl,hmc,hcm,hb,p0,p1,f0,f1,t0,t1,t2,ltP,ltT⟩:=h.cells
 have hm2:m≤9223372036854775807:=by omega
 have hm3:(0:Int) < (m:Int):=by omega
 obtain⟨a,ha⟩:∃a:Int,a=(hdT l).at_ :=⟨_,rfl⟩
 rw[←ha]at t2
 obtain⟨w1,hw1⟩:=nmq (((w.alloc (.cells #[.pointer (some ⟨C.P,0,none⟩)] 74)).alloc (.cells #[.int .u8 0,.slice none 0 0,.slice none 0 0,.int .i64 0] 190)).alloc (.cells #[.int .i64 a] 3))
 obtain⟨hf1,hz1,hpx,hbx,hax⟩:=not_boxes C a w w1 hw1
 have h1:=h.fr hf1 id id fun _ _=>id
 have h2:=h1.alloc (.cells #[.string ⟨#[33]⟩,.string ⟨#[91]⟩,.string ⟨#[116,114,117,101]⟩,.string ⟨#[102,97,108,115,101]⟩] 9)
 have hf2:Fr NoT w1 (w1.alloc (.cells #[.string ⟨#[33]⟩,.string ⟨#[91]⟩,.string ⟨#[116,114,117,101]⟩,.string ⟨#[102,97,108,115,101]⟩] 9)):=(Fr.refl NoT w1).alloc _
 have hiy:=is4_any C notS l d w1 h2 4 rfl (by decide)
 unfold strA at hiy
 obtain⟨k,hkk⟩:=nmq (isP notS l)
 rw[←hkk]at hiy hk0
 unfold notS at hiy
 simp only[List.map_cons,List.map_nil]at hiy
 rw[hz1]at hiy
 have e0:(k==0)=false:=by simp;omega
 have e1:(k==1)=false:=by simp;omega
 have e2:(k==2)=false:=by simp;omega
 have e3:(k==3)=false:=by simp;omega
 have hex:=expr_ok C l d _ x r o1 hk h2
 unfold ExK at hex
 have HF:=hdq (hf1.trans hf2)
 have HPX:=hdq (hpx.fr0 hf2)
 have HBX:=hdq (hbx.fr0 hf2)
 have hsz:(w1.alloc (.cells #[.string ⟨#[33]⟩,.string ⟨#[91]⟩,.string ⟨#[116,114,117,101]⟩,.string ⟨#[102,97,108,115,101]⟩] 9)).heap.size =w.heap.size+4:=by simp[hz1]
 rw[hw1]at hiy hex HF HPX HBX hsz
 have HIY:=hdq hiy
 have HEX:=hdq hex
 have HL:=hdq hL
 have HK:=hdq hk
 have HZ:=hdq hsz
 have HO3:=hdq o3
 clear hiy hex hw1 hf1 hz1 hpx hbx hax h1 h2 hf2 h hk hk0 hkk hb hl hm0 ha hL hsz o1 o3
 go_enter Tryz.func226,Tryz.ntmps226
 go_wp2_with fail
 refine HIY.out.mono ?_
 rintro _ wy ⟨rfl,rfl⟩
 go_wp2_with fail
 refine HEX.out.mono ?_
 rintro _ w5 ⟨v5,rfl,hv,hp,hf⟩
 obtain⟨A,c1,rfl⟩:=ExVS.parts hv
 unfold exV
 rw[HZ.out]at hv
 have hpb5:=HPX.out.fr hf (fun e=>by have e:w.heap.size=C.P:=e;have:=HL.out;omega)
 have hbb5:=HBX.out.fr hf (fun e=>by have e:w.heap.size+1=C.P:=e;have:=HL.out;omega)
 have hs5:=hf.size
 rw[HZ.out]at hs5
 obtain⟨w6,hw6⟩:=nmq (w5.alloc (.cells #[.int .u8 x.k,.string x.nm,.int .i64 x.n,.slice A x.args.len c1,.int .i64 x.at_] 68))
 have hf6:Fr NoT w5 w6:=by rw[hw6];exact(Fr.refl _ _).alloc _
 have hxb6:Bk w6 w5.heap.size 68 #[.int .u8 x.k,.string x.nm,.int .i64 x.n,.slice A x.args.len c1,.int .i64 x.at_]:=by rw[hw6];exact Bk.new _ _ _
 have hz6:w6.heap.size=w5.heap.size+1:=by rw[hw6];simp
 have hp6:=hp.fr hf6 id id fun _ _=>id
 have h7:=hp6.alloc (.cells #[.string ⟨#[60]⟩,.string ⟨#[60,61]⟩,.string ⟨#[62]⟩,.string ⟨#[62,61]⟩,.string ⟨#[61,61]⟩,.string ⟨#[33,61]⟩] 9)
 have hf7:Fr NoT w6 (w6.alloc (.cells #[.string ⟨#[60]⟩,.string ⟨#[60,61]⟩,.string ⟨#[62]⟩,.string ⟨#[62,61]⟩,.string ⟨#[61,61]⟩,.string ⟨#[33,61]⟩] 9)):=(Fr.refl _ _).alloc _
 have hic:=is4_any C cmpS r d w6 h7 6 rfl (by decide)
 unfold strA at hic
 obtain⟨q,hqq⟩:=nmq (isP cmpS r)
 rw[←hqq]at hic o2
 unfold cmpS at hic
 simp only[List.map_cons,List.map_nil]at hic
 rw[hz6]at hic
 have hpc:=hpb5.cell 0
 have hpl5:=hpb5.lt
 have hat:=in64_at HK.out hp
 have HAT:=hdq hat
 have hF7:=(HF.out.any.trans hf).trans (hf6.any.trans hf7.any)
 have HF7:=hdq hF7
 have HW6:=hdq hw6
 rw[hw6]at hic
 have HIC:=hdq hic
 have HQQ:=hdq hqq
 have HX5:=hdq hv
 have HPB6:=hdq ((hpb5.fr0 hf6).fr0 hf7)
 have HBB6:=hdq ((hbb5.fr0 hf6).fr0 hf7)
 have HXB6:=hdq (hxb6.fr0 hf7)
 have H7:=hdq h7
 have HF57:=hdq (hf6.trans hf7)
 simp only[List.getElem?_toArray,List.getElem?_cons_zero]at hpc
 have hpx5:w5.cell? ⟨w.heap.size,0,none⟩=some (.pointer (some ⟨C.P,0,none⟩)):=hpc
 have hQK:∀q',q'=q→3+q'=3+isP cmpS r:=fun q' h=>by rw[h,hqq]
 have HQK:=hdq hQK
 clear hQK
 ·have hge:0≤q:=o2
  have hps:=pass_any C r d _ HK.out h7 (fun ht=>by
   have:=(isP_text (signs:=cmpS) (l:=r) (by rw[←hqq];exact hge)).1
   rw[ht.1]at this
   simp[cmpS]at this)
  unfold PassP tkV pP at hps
  rw[hw6]at hps
  have HPS:=hdq hps
  have hqb:q≤6:=by
   have:=isP_le cmpS r
   rw[←hqq]at this
   have e:cmpS.length=6:=rfl
   omega
  clear hv hp hf hpb5 hbb5 hf6 hxb6 hp6 h7 hf7 hic hqq hat hF7 hw6 hpc hps
  go_wp2_with fail
  refine HIC.out.mono ?_
  rintro _ wz ⟨rfl,rfl⟩
  go_wp2_with fail
  refine HPS.out.mono ?_
  rintro _ w8 ⟨rfl,hp8,hf8⟩
  rw[←HW6.out]at hf8
  have hne5:¬C.T w5.heap.size:=fun e=>by have e:w5.heap.size=C.P:=e;have:=HL.out;omega
  have hnep:¬C.T w.heap.size:=fun e=>by have e:w.heap.size=C.P:=e;have:=HL.out;omega
  have hner:¬C.T (w.heap.size+1):=fun e=>by have e:w.heap.size+1=C.P:=e;have:=HL.out;omega
  have HNE:=hdq (aiq hne5 (aiq hnep hner))
  have hpb8:=HPB6.out.fr hf8 hnep
  have hbb8:=HBB6.out.fr hf8 hner
  have hxb8:=HXB6.out.fr hf8 hne5
  have hpp0:=hpb8.cell 0
  have x0:=hxb8.cell 0
  have x1:=hxb8.cell 1
  have x2:=hxb8.cell 2
  have x3:=hxb8.cell 3
  have x4:=hxb8.cell 4
  simp only[getsL]at hpp0 x0 x1 x2 x3 x4
  have hpl:=hpb8.lt
  have hxl:=hxb8.lt
  have hdr:=hp8.fr (T:=NoT) (Fr.drew (Fr.refl _ _)) id id fun _ _=>id
  have hey:=expr_ok C r.tail d _ y Rr HO3.out HK.out hdr
  unfold ExK at hey
  have HEY:=hdq hey
  clear hey
  have HPB8:=hdq hpb8
  have HBB8:=hdq hbb8
  have HXB8:=hdq hxb8
  have HF58:=hdq ((HF57.out.any.trans hf8).drew)
  have HF8:=hdq (HF7.out.trans hf8)
  clear hp8 hf8 hpb8 hbb8 hxb8 hdr hne5 hnep hner
  go_wp2_with fail
  go_region_held2 (fun W'=>W'.cell? ⟨w.heap.size,0,none⟩=some (.pointer (some ⟨C.P,0,none⟩))∧W'.cell? ⟨w5.heap.size,0,none⟩=some (.int .u8 x.k)∧W'.cell? ⟨w5.heap.size,1,none⟩=some (.string x.nm)∧W'.cell? ⟨w5.heap.size,2,none⟩=some (.int .i64 x.n)∧W'.cell? ⟨w5.heap.size,3,none⟩=some (.slice A x.args.len c1)∧W'.cell? ⟨w5.heap.size,4,none⟩=some (.int .i64 x.at_))
   (first
    |(refine⟨?_,?_,?_,?_,?_,?_⟩<;>with_reducible assumption)
    |(with_reducible refine⟨(Fr.cell (T:=fun b=>b=w.heap.size+1) (w:=w10) (Fr.alloc (Fr.own (Fr.own (Fr.own (Fr.own (Fr.refl _ _) _ _) _ _) _ _) _ _) _) hpl10 hpr).trans hp10,(Fr.cell (T:=fun b=>b=w.heap.size+1) (w:=w10) (Fr.alloc (Fr.own (Fr.own (Fr.own (Fr.own (Fr.refl _ _) _ _) _ _) _ _) _ _) _) hxl10 hxr).trans y0,(Fr.cell (T:=fun b=>b=w.heap.size+1) (w:=w10) (Fr.alloc (Fr.own (Fr.own (Fr.own (Fr.own (Fr.refl _ _) _ _) _ _) _ _) _ _) _) hxl10 hxr).trans y1,(Fr.cell (T:=fun b=>b=w.heap.size+1) (w:=w10) (Fr.alloc (Fr.own (Fr.own (Fr.own (Fr.own (Fr.refl _ _) _ _) _ _) _ _) _ _) _) hxl10 hxr).trans y2,(Fr.cell (T:=fun b=>b=w.heap.size+1) (w:=w10) (Fr.alloc (Fr.own (Fr.own (Fr.own (Fr.own (Fr.refl _ _) _ _) _ _) _ _) _ _) _) hxl10 hxr).trans y3,(Fr.cell (T:=fun b=>b=w.heap.size+1) (w:=w10) (Fr.alloc (Fr.own (Fr.own (Fr.own (Fr.own (Fr.refl _ _) _ _) _ _) _ _) _ _) _) hxl10 hxr).trans y4⟩)
    |(with_reducible refine⟨(Fr.cell (T:=NoT) (w:=w10) (Fr.alloc (Fr.refl _ _) _) hpl10 id).trans hp10,(Fr.cell (T:=NoT) (w:=w10) (Fr.alloc (Fr.refl _ _) _) hxl10 id).trans y0,(Fr.cell (T:=NoT) (w:=w10) (Fr.alloc (Fr.refl _ _) _) hxl10 id).trans y1,(Fr.cell (T:=NoT) (w:=w10) (Fr.alloc (Fr.refl _ _) _) hxl10 id).trans y2,(Fr.cell (T:=NoT) (w:=w10) (Fr.alloc (Fr.refl _ _) _) hxl10 id).trans y3,(Fr.cell (T:=NoT) (w:=w10) (Fr.alloc (Fr.refl _ _) _) hxl10 id).trans y4⟩)
    |(with_reducible refine⟨(Fr.cell (T:=NoT) (w:=w8) (Fr.drew (Fr.refl _ _)) hpl id).trans hpp0,(Fr.cell (T:=NoT) (w:=w8) (Fr.drew (Fr.refl _ _)) hxl id).trans x0,(Fr.cell (T:=NoT) (w:=w8) (Fr.drew (Fr.refl _ _)) hxl id).trans x1,(Fr.cell (T:=NoT) (w:=w8) (Fr.drew (Fr.refl _ _)) hxl id).trans x2,(Fr.cell (T:=NoT) (w:=w8) (Fr.drew (Fr.refl _ _)) hxl id).trans x3,(Fr.cell (T:=NoT) (w:=w8) (Fr.drew (Fr.refl _ _)) hxl id).trans x4⟩))
   (first
    |(go_at_call 130
      with_reducible refine HEY.out.mono ?_
      rintro _ w10 ⟨v10,rfl,hv,hp,hf⟩
      obtain⟨A2,c2,rfl⟩:=ExVS.parts hv
      unfold exV
      have hfw:=(Fr.drew (Fr.refl C.T w8)).trans hf
      have hb10:=HBB8.out.fr hfw HNE.out.2.2
      have q0:=hb10.cell 0
      have q1:=hb10.cell 1
      have q2:=hb10.cell 2
      have q3:=hb10.cell 3
      have g0:=hb10.frozen 0
      have g1:=hb10.frozen 1
      have g2:=hb10.frozen 2
      have g3:=hb10.frozen 3
      have hpb10:=HPB8.out.fr hfw HNE.out.2.1
      have hxb10:=HXB8.out.fr hfw HNE.out.1
      have hp10:=hpb10.cell 0
      have y0:=hxb10.cell 0
      have y1:=hxb10.cell 1
      have y2:=hxb10.cell 2
      have y3:=hxb10.cell 3
      have y4:=hxb10.cell 4
      have hpl10:=hpb10.lt
      have hxl10:=hxb10.lt
      have hrl10:=hb10.lt
      have hpr:¬w.heap.size=w.heap.size+1:=by omega
      have hxr:¬w5.heap.size=w.heap.size+1:=by omega
      simp only[getsL]at q0 q1 q2 q3 hp10 y0 y1 y2 y3 y4
      have HV:=hdq hv
      have HP:=hdq hp
      have HFw:=hdq (HF8.out.drew.trans hf)
      have HF1:=hdq ((HF58.out).trans hf)
      have hs8:w5.heap.size≤w8.heap.size:=HF58.out.size
      have HS8:=hdq hs8
      clear hv hp hf hfw hb10 hpb10 hxb10 hs8))
  all_goals
   go_wp2_with fail
   have hw3:IntKind.u8.wrap (3+IntKind.u8.wrap q)=3+q:=by simp[IntKind.wrap,IntKind.signed,IntKind.bits];omega
   rw[hw3]
   obtain⟨k9,hk9⟩:=nmq (3+q)
   rw[←hk9]
   have h89:in8 k9:=by unfold in8;omega
   refine bodyPost_ret (v:=cdV k9 (some ⟨w10.heap.size,0,none⟩) 2 2 none 0 0 (hdT r).at_) (by simp[results,Tryz.results226,go_sem,cdV,q0,q1,q2,q3,hrl10]) rfl ?_
   rw[show(3+isP cmpS r)=k9 from by rw[hk9,HQK.out q rfl]]
   refine cmp_fin (w5:=w5) (L:=w.heap.size+4) HL.out h89 HAT.out (by omega) (by omega) (by omega) HX5.out HF1.out ?_ hs5 HP.out HFw.out _ rfl
   have hv:=HV.out
   exact hv.low HS8.out

def BoxC (C:Pcx) (d:Nat) (X:Cn) (Rr:List Tk) (w:World) (rb:Nat) (K:World→Prop) (e:Ending) (w7:World):Prop:=
  ∃A c B q,e= .returned (.agg #[.int .u8 X.k,.slice A X.args.len c,.slice B X.of_.len q,.int .i64 X.at_])∧Bk w7 rb 190 #[.int .u8 0,.slice none 0 0,.slice none 0 0,.int .i64 0]∧K w7∧
    Hid (∀w9,w9=(((w7.setCell ⟨rb,0,none⟩ (.int .u8 X.k)).setCell ⟨rb,1,none⟩ (.slice A X.args.len c)).setCell ⟨rb,2,none⟩ (.slice B X.of_.len q)).setCell ⟨rb,3,none⟩ (.int .i64 X.at_)→CdK C d X Rr w (.returned (cdV X.k A X.args.len c B X.of_.len q X.at_)) w9)
theorem boxC {C:Pcx} {d:Nat} {X:Cn} {Rr:List Tk} {w WA:World} {rb f:Nat} {av:Array Value} {K:World→Prop} (hL:C.P < w.heap.size∧C.TB < w.heap.size∧C.W0.heap.size≤w.heap.size) (hA:Fr NoT w WA) (hr:w.heap.size≤rb)
    (hb:Bk WA rb 190 #[.int .u8 0,.slice none 0 0,.slice none 0 0,.int .i64 0]) (hK:∀W,Fr C.T WA W→K W) (h:Calls Tryz.prog f av WA (CdK C d X Rr WA)):Calls Tryz.prog f av WA (BoxC C d X Rr w rb K):=by
  refine h.mono ?_
  rintro e w7 ⟨v,rfl,hv,hp,hf⟩
  obtain⟨A,c,B,q,rfl⟩:=CdVS.parts hv
  exact⟨A,c,B,q,rfl,hb.fr hf (fun e=>by have e:rb=C.P:=e;omega),hK _ hf,fun w9 h9=>cdP_box hL hA hr hb.lt hv hp hf h9⟩
theorem chainC0_of (C:Pcx) (signs:List (List UInt8)) (g:Nat) (fst cap:Array Value) (F:Value) (b m:Nat) (l:List Tk) (d:Nat) (w:World) (X:Cn) (Rr:List Tk) (hk:C.Ok) (h:PaAt C w l d)
    (hm:m=signs.length) (hsl:signs.length≤3) (hss:Bk w b 9 (strA signs)) (hbP:b≠C.P) (hneg:isP signs Rr < 0)
    (hent:Enters Tryz.prog g) (hone:∀W,Fr NoT w W→Calls Tryz.prog g (fst++cap) W (CdK C d X Rr W)):
    Calls Tryz.prog 225 #[.pointer (some ⟨C.P,0,none⟩),.func (.func g) fst cap,F,.slice (some ⟨b,0,none⟩) m m] w (CdK C d X Rr w):=by
  subst hm
  exact chainC0 C signs g fst cap F b _ l d w X Rr hk h hsl (fun j hj=>by rw[hss.cell j];simp[strA,hj]) hss.lt hbP hneg hent hone
theorem all_ok (C:Pcx) (l:List Tk) (d:Nat) (pb fb:Nat) (w:World) (X:Cn) (Rr:List Tk) (hok:cmpQ l= .ok X Rr) (hn:isP andS Rr < 0) (hk:C.Ok) (h:PaAt C w l d) (hpb:Bk w pb 74 #[.pointer (some ⟨C.P,0,none⟩)]) (hnep:pb≠C.P) (hfb:Bk w fb 290 #[.func (.func 222) #[] #[]]) (hnef:fb≠C.P):
    Calls Tryz.prog 224 #[.pointer (some ⟨pb,0,none⟩),.pointer (some ⟨fb,0,none⟩)] w (CdK C d X Rr w):=by
  have hmf:= @makeF Tryz.prog
  have hL:=h.lts
  have hpl:=hpb.lt
  have hp0:=hpb.cell 0
  have hfl:=hfb.lt
  have hf0:=hfb.cell 0
  simp only[List.getElem?_toArray,List.getElem?_cons_zero]at hp0 hf0
  obtain⟨w1,hw1⟩:=nmq (w.alloc (.cells #[.int .u8 0,.slice none 0 0,.slice none 0 0,.int .i64 0] 190))
  have hz1:w1.heap.size=w.heap.size+1:=by rw[hw1];simp
  have hf1:Fr NoT w w1:=by rw[hw1];exact(Fr.refl _ _).alloc _
  have hbx:Bk w1 w.heap.size 190 #[.int .u8 0,.slice none 0 0,.slice none 0 0,.int .i64 0]:=by rw[hw1];exact Bk.new _ _ _
  obtain⟨a1,a2,a3⟩:=ordA w1 #[.int .u8 10] (strA andS) _ rfl
  obtain⟨b1,b2,b3⟩:=ordB w1 #[.int .u8 10] (strA andS) _ rfl
  rw[hz1]at a1 a2 b1 b2
  have key:∀(W:World) (F:Value) (b:Nat),Fr NoT w1 W→Bk W b 9 (strA andS)→w.heap.size < b→Calls Tryz.prog 225 #[.pointer (some ⟨C.P,0,none⟩),.func (.func 226) #[.pointer (some ⟨C.P,0,none⟩)] #[],F,.slice (some ⟨b,0,none⟩) 1 1] W (BoxC C d X Rr w (w.heap.size) fun W'=>(W'.cell? ⟨pb,0,none⟩=some (.pointer (some ⟨C.P,0,none⟩))∧pb < W'.heap.size)∧(W'.cell? ⟨fb,0,none⟩=some (.func (.func 222) #[] #[])∧fb < W'.heap.size)):=fun W F b hf h2 h4=>
    boxC hL (hf1.trans hf) (by omega) (hbx.fr0 hf) (fun W' hW=>⟨⟨((hpb.fr0 (hf1.trans hf)).fr hW hnep).cell 0,((hpb.fr0 (hf1.trans hf)).fr hW hnep).lt⟩,⟨((hfb.fr0 (hf1.trans hf)).fr hW hnef).cell 0,((hfb.fr0 (hf1.trans hf)).fr hW hnef).lt⟩⟩) (chainC0_of C andS 226 _ _ F b 1 l d W X Rr hk (h.fr (hf1.trans hf) id id fun _ _=>id) rfl (by decide) h2 (by omega) hn (enters_of Tryz.func226 (by kernel_rfl) rfl) fun W' hfw=>by
      simpa using not_ok C l d W' X Rr hok hk (h.fr ((hf1.trans hf).trans hfw) id id fun _ _=>id))
  have HA:=hdq (key _ (.func (.func 223) #[] #[.pointer (some ⟨w1.heap.size,0,none⟩)]) _ a3 a2 (by omega))
  have HB:=hdq (key _ (.func (.func 223) #[] #[.pointer (some ⟨w1.heap.size+1,0,none⟩)]) _ b3 b2 (by omega))
  rw[hz1]at HA HB
  rw[hw1]at HA HB
  have hpr:¬pb=w.heap.size:=by omega
  have hfr:¬fb=w.heap.size:=by omega
  clear key hw1 hz1 hf1 hbx a1 a2 a3 b1 b2 b3 hL h hk hok hn hpb hnep hfb hnef
  unfold strA andS at HA HB
  simp only[List.map_cons,List.map_nil]at HA HB
  go_enter Tryz.func224,Tryz.ntmps224
  go_wp2_with fail
  go_region_held2 (fun W'=>W'.cell? ⟨pb,0,none⟩=some (.pointer (some ⟨C.P,0,none⟩))∧W'.cell? ⟨fb,0,none⟩=some (.func (.func 222) #[] #[]))
    (first
      |(refine⟨?_,?_⟩<;>with_reducible assumption)
      |(with_reducible refine⟨(Fr.cell (T:=fun b=>b=w.heap.size) (w:=w7) (Fr.own (Fr.own (Fr.own (Fr.own (Fr.refl _ _) _ _) _ _) _ _) _ _) hpl7 hpr).trans hp7,(Fr.cell (T:=fun b=>b=w.heap.size) (w:=w7) (Fr.own (Fr.own (Fr.own (Fr.own (Fr.refl _ _) _ _) _ _) _ _) _ _) hfl7 hfr).trans hf7⟩)
      | (refine⟨(Fr.cell (T:=NoT) (w:=w) ?_ hpl id).trans hp0,(Fr.cell (T:=NoT) (w:=w) ?_ hfl id).trans hf0⟩<;>
         repeat(first|exact Fr.refl _ _|refine Fr.alloc ?_ _|refine Fr.drew ?_)))
    (first
      | (go_at_call 222
         refine(join_any _ _).mono ?_
         rintro _ wa ⟨rfl,rfl⟩)
      | (go_at_call 225
         first
           |(with_reducible refine HA.out.mono ?_)
           |(with_reducible refine HB.out.mono ?_)
         rintro _ w7 ⟨A,c,B,q,rfl,hb7,⟨⟨hp7,hpl7⟩,⟨hf7,hfl7⟩⟩,HE⟩
         have q0:=hb7.cell 0
         have q1:=hb7.cell 1
         have q2:=hb7.cell 2
         have q3:=hb7.cell 3
         have g0:=hb7.frozen 0
         have g1:=hb7.frozen 1
         have g2:=hb7.frozen 2
         have g3:=hb7.frozen 3
         have hlt7:=hb7.lt
         simp only[getsL]at q0 q1 q2 q3
         clear hb7))
  all_goals
    go_wp2_with fail
    exact bodyPost_ret (v:=cdV X.k A X.args.len c B X.of_.len q X.at_) (by simp[results,Tryz.results224,go_sem,cdV,q0,q1,q2,q3,hlt7]) rfl (HE.out _ rfl)
theorem cond_ok (C:Pcx) (l:List Tk) (d:Nat) (w:World) (X:Cn) (Rr:List Tk) (hok:cmpQ l= .ok X Rr) (ha:isP andS Rr < 0) (hn:isP orS Rr < 0) (hk:C.Ok) (h:PaAt C w l d):
    Calls Tryz.prog 219 #[.pointer (some ⟨C.P,0,none⟩)] w (CdK C d X Rr w):=by
  have hmf:= @makeF Tryz.prog
  have hL:=h.lts
  obtain⟨w1,hw1⟩:=nmq (((w.alloc (.cells #[.pointer (some ⟨C.P,0,none⟩)] 74)).alloc (.cells #[.int .u8 0,.slice none 0 0,.slice none 0 0,.int .i64 0] 190)).alloc (.cells #[.func (.func 222) #[] #[]] 290))
  have hz1:w1.heap.size=w.heap.size+3:=by rw[hw1];simp
  have hf1:Fr NoT w w1:=by rw[hw1];exact(((Fr.refl _ _).alloc _).alloc _).alloc _
  have hpx:Bk w1 w.heap.size 74 #[.pointer (some ⟨C.P,0,none⟩)]:=by rw[hw1];exact((Bk.new _ _ _).alloc _).alloc _
  have hbx:Bk w1 (w.heap.size+1) 190 #[.int .u8 0,.slice none 0 0,.slice none 0 0,.int .i64 0]:=by rw[hw1];exact(Bk.new_at _ _ _ (by simp)).alloc _
  have hfx:Bk w1 (w.heap.size+1+1) 290 #[.func (.func 222) #[] #[]]:=by rw[hw1];exact Bk.new_at _ _ _ (by simp)
  have hp0:=hpx.cell 0
  have hpl:=hpx.lt
  have hf0:=hfx.cell 0
  have hfl:=hfx.lt
  simp only[List.getElem?_toArray,List.getElem?_cons_zero]at hp0 hf0
  obtain⟨a1,a2,a3⟩:=ordA w1 #[.int .u8 11] (strA orS) _ rfl
  obtain⟨b1,b2,b3⟩:=ordB w1 #[.int .u8 11] (strA orS) _ rfl
  rw[hz1]at a1 a2 b1 b2
  have key:∀(W:World) (F:Value) (b:Nat),Fr NoT w1 W→Bk W b 9 (strA orS)→w.heap.size < b→Calls Tryz.prog 225 #[.pointer (some ⟨C.P,0,none⟩),.func (.func 224) #[] #[.pointer (some ⟨w.heap.size,0,none⟩),.pointer (some ⟨w.heap.size+1+1,0,none⟩)],F,.slice (some ⟨b,0,none⟩) 1 1] W (BoxC C d X Rr w (w.heap.size+1) fun W'=>(W'.cell? ⟨w.heap.size,0,none⟩=some (.pointer (some ⟨C.P,0,none⟩))∧w.heap.size < W'.heap.size)∧(W'.cell? ⟨w.heap.size+1+1,0,none⟩=some (.func (.func 222) #[] #[])∧w.heap.size+1+1 < W'.heap.size)):=fun W F b hf h2 h4=>
    boxC hL (hf1.trans hf) (by omega) (hbx.fr0 hf) (fun W' hW=>⟨⟨((hpx.fr0 hf).fr hW (fun e=>by have e:w.heap.size=C.P:=e;omega)).cell 0,((hpx.fr0 hf).fr hW (fun e=>by have e:w.heap.size=C.P:=e;omega)).lt⟩,⟨((hfx.fr0 hf).fr hW (fun e=>by have e:w.heap.size+1+1=C.P:=e;omega)).cell 0,((hfx.fr0 hf).fr hW (fun e=>by have e:w.heap.size+1+1=C.P:=e;omega)).lt⟩⟩) (chainC0_of C orS 224 _ _ F b 1 l d W X Rr hk (h.fr (hf1.trans hf) id id fun _ _=>id) rfl (by decide) h2 (by omega) hn (enters_of Tryz.func224 (by kernel_rfl) rfl) fun W' hfw=>by
      simpa using all_ok C l d w.heap.size (w.heap.size+1+1) W' X Rr hok ha hk (h.fr ((hf1.trans hf).trans hfw) id id fun _ _=>id) ((hpx.fr0 hf).fr0 hfw) (by omega) ((hfx.fr0 hf).fr0 hfw) (by omega))
  have HA:=hdq (key _ (.func (.func 223) #[] #[.pointer (some ⟨w1.heap.size,0,none⟩)]) _ a3 a2 (by omega))
  have HB:=hdq (key _ (.func (.func 223) #[] #[.pointer (some ⟨w1.heap.size+1,0,none⟩)]) _ b3 b2 (by omega))
  rw[hz1]at HA HB
  rw[hw1]at HA HB hp0 hpl hf0 hfl
  have hpr:¬w.heap.size=w.heap.size+1:=by omega
  have hfr:¬w.heap.size+1+1=w.heap.size+1:=by omega
  clear key hw1 hz1 hf1 hbx a1 a2 a3 b1 b2 b3 hL h hk hok hn ha hpx hfx
  unfold strA orS at HA HB
  simp only[List.map_cons,List.map_nil]at HA HB
  go_enter Tryz.func219,Tryz.ntmps219
  go_wp2_with fail
  go_region_held2 (fun W'=>W'.cell? ⟨w.heap.size,0,none⟩=some (.pointer (some ⟨C.P,0,none⟩))∧W'.cell? ⟨w.heap.size+1+1,0,none⟩=some (.func (.func 222) #[] #[]))
    (first
      |(refine⟨?_,?_⟩<;>with_reducible assumption)
      |(with_reducible refine⟨(Fr.cell (T:=fun b=>b=w.heap.size+1) (w:=w7) (Fr.own (Fr.own (Fr.own (Fr.own (Fr.refl _ _) _ _) _ _) _ _) _ _) hpl7 hpr).trans hp7,(Fr.cell (T:=fun b=>b=w.heap.size+1) (w:=w7) (Fr.own (Fr.own (Fr.own (Fr.own (Fr.refl _ _) _ _) _ _) _ _) _ _) hfl7 hfr).trans hf7⟩)
      | (refine⟨(Fr.cell (T:=NoT) (w:=_) ?_ hpl id).trans hp0,(Fr.cell (T:=NoT) (w:=_) ?_ hfl id).trans hf0⟩<;>
         repeat(first|exact Fr.refl _ _|refine Fr.alloc ?_ _|refine Fr.drew ?_)))
    (first
      | (go_at_call 222
         refine(join_any _ _).mono ?_
         rintro _ wa ⟨rfl,rfl⟩)
      | (go_at_call 225
         first
           |(with_reducible refine HA.out.mono ?_)
           |(with_reducible refine HB.out.mono ?_)
         rintro _ w7 ⟨A,c,B,q,rfl,hb7,⟨⟨hp7,hpl7⟩,⟨hf7,hfl7⟩⟩,HE⟩
         have q0:=hb7.cell 0
         have q1:=hb7.cell 1
         have q2:=hb7.cell 2
         have q3:=hb7.cell 3
         have g0:=hb7.frozen 0
         have g1:=hb7.frozen 1
         have g2:=hb7.frozen 2
         have g3:=hb7.frozen 3
         have hlt7:=hb7.lt
         simp only[getsL]at q0 q1 q2 q3
         clear hb7))
  all_goals
    go_wp2_with fail
    exact bodyPost_ret (v:=cdV X.k A X.args.len c B X.of_.len q X.at_) (by simp[results,Tryz.results219,go_sem,cdV,q0,q1,q2,q3,hlt7]) rfl (HE.out _ rfl)
theorem condQ_ok {l r:List Tk} {c:Cn} (h:condQ l= .ok c r):cmpQ l= .ok c r∧isP andS r < 0∧isP orS r < 0:=by
  obtain⟨x,q,h1,h2⟩:=PR.then_ok h
  split at h2
  · rename_i h3
    simp only[PR.ok.injEq]at h2
    obtain⟨rfl,rfl⟩:=h2
    exact⟨h1,h3⟩
  · simp at h2
end Go.Proofs.YtphlnpaikpjakaaGreatDoor
