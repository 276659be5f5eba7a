/-
  parse: keywords: a map from words to kinds and methods.
-/
import Derived.Test.YtfomomaomggpbaaGreatDoorJnPf
import Derived.Test.YtfomomaomggpbaaGreatDoorJgInE
set_option linter.unusedVariables false
set_option linter.unusedSimpArgs false
set_option maxHeartbeats 12800000
set_option maxRecDepth 100000
namespace Go.Proofs.YtfomomaomggpbaaGreatDoor
open Go.RowKit Go.Shelf Go.Maps

def begV (k:Int) (g:Nat):Value:= .agg #[.int .u8 k,.func (.func g) #[] #[]]
def KwM (w:World) (b n:Nat) (tab:List (List UInt8×Value)):Prop:=
 ∃D,w.ownsMap Tryz.prog 9 heldB b n D∧∀t:List UInt8,Maps.has D (.string t)=(tab.lookup t).isSome ∧(∀v,tab.lookup t=some v→∀z,D.atKey (.string t) z= .held v)∧(tab.lookup t=none→∀z,D.atKey (.string t) z=z)
theorem KwM.made (w:World):KwM (w.alloc (.map #[] 0)) w.heap.size 0 []:=⟨_,World.ownsMap_made _ _ _ _,fun t=>⟨rfl,fun v h=>by simp at h,fun _ z=>rfl⟩⟩
theorem KwM.put {w:World} {b n:Nat} {tab:List (List UInt8×Value)} (h:KwM w b n tab) {t:List UInt8} (ht:t.length≤maxLen) (v:Value) (hn:n < maxLen):
  ∃w',(Instr.mapUpdate 326 (.map (some b)) (.string ⟨t.toArray⟩) v).run Tryz.prog w= .ok () w'∧KwM w' b (n+1) ((t,v)::tab)∧w.grownBy w' (some b):=by
 obtain⟨D,hown,hD⟩:=h
 obtain⟨w',hrun,hown',hg⟩:=hown.update strKey Tryz.underlying326 hn (keyS ht) (val:=v) (d:= .held v) (ps:= []) rfl
 refine⟨w',hrun,⟨_,hown',fun x=>?_⟩,hg⟩
 have kx:WideAt.IsKeyLit (.string t):=strKey.key (keyS ht)
 by_cases e:x=t
 ·subst e
  refine⟨by rw[has_put_same hown.isMap kx];simp,fun u hu z=>?_,fun hu=>by simp at hu⟩
  rw[atKey_put_same hown.isMap kx]
  simp at hu
  rw[hu]
 ·have e1:(x==t)=false:=by simpa using e
  have e2:(Lit.string x)≠ .string t:=fun h=>e (by simpa using h)
  refine⟨by rw[has_put_other e2,(hD x).1];simp[List.lookup,e1],fun u hu z=>?_,fun hu z=>?_⟩
  ·rw[atKey_put_other e2]
   exact(hD x).2.1 u (by simpa[List.lookup,e1]using hu) z
  ·rw[atKey_put_other e2]
   exact(hD x).2.2 (by simpa[List.lookup,e1]using hu) z
theorem KwM.kept {w w':World} {b n:Nat} {tab:List (List UInt8×Value)} (h:KwM w b n tab) {row:Option Nat} (hg:w.grownBy w' row) (hne:some b≠row):KwM w' b n tab:=by
 obtain⟨D,hown,hD⟩:=h
 exact⟨D,hown.kept hg hne,hD⟩
theorem zeroBegun (w:World):(zeroValue 324).run Tryz.prog w= .ok (.agg #[.int .u8 0,.nilFunc]) w:=by kernel_rfl
def zeroBeg:Value:= .agg #[.int .u8 0,.nilFunc]
theorem KwM.look {w:World} {b n:Nat} {tab:List (List UInt8×Value)} (h:KwM w b n tab) {t:List UInt8} (ht:t.length≤maxLen):
  (Instr.lookup 326 (.map (some b)) (.string ⟨t.toArray⟩) true).run Tryz.prog w= .ok (.tuple #[(tab.lookup t).getD zeroBeg,.bool (tab.lookup t).isSome]) w:=by
 obtain⟨D,hown,hD⟩:=h
 obtain⟨v,ps,hrun,hv⟩:=hown.look_ok strKey Tryz.underlying326 (zeroBegun w) (zd:= .held _) (zp:= []) rfl (keyS ht)
 rw[(hD t).1]at hrun
 rw[hrun]
 cases hl:tab.lookup t with
 |none=>
  rw[(hD t).2.2 hl]at hv
  simp only[heldB,Option.some.injEq,Prod.mk.injEq,DataW.held.injEq]at hv
  rw[hv.1]
  rfl
 |some u=>
  rw[(hD t).2.1 u hl]at hv
  simp only[heldB,Option.some.injEq,Prod.mk.injEq,DataW.held.injEq]at hv
  rw[hv.1]
  rfl
def kwTab:List (List UInt8×Value):= [([99,97,108,108],begV 9 (kwF 9)),([119,104,105,108,101],begV 8 (kwF 8)),([105,102],begV 7 (kwF 7)),([97,115,115,101,114,116],begV 6 (kwF 6)),([97,115,115,117,109,101],begV 5 (kwF 5)),([105,110,112,117,116],begV 4 (kwF 4)),([115,107,105,112],begV 1 (kwF 1))]
theorem kwTab_key (t:List UInt8):kwTab.lookup t=if keyK t=0 then none else some (begV (keyK t) (kwF (keyK t))):=by
 unfold keyK kwTab
 by_cases h1:t= [115,107,105,112]
 ·subst h1;rfl
 by_cases h2:t= [105,110,112,117,116]
 ·subst h2;rfl
 by_cases h3:t= [97,115,115,117,109,101]
 ·subst h3;rfl
 by_cases h4:t= [97,115,115,101,114,116]
 ·subst h4;rfl
 by_cases h5:t= [105,102]
 ·subst h5;rfl
 by_cases h6:t= [119,104,105,108,101]
 ·subst h6;rfl
 by_cases h7:t= [99,97,108,108]
 ·subst h7;rfl
 have e1:(t== [115,107,105,112])=false:=by simpa using h1
 have e2:(t== [105,110,112,117,116])=false:=by simpa using h2
 have e3:(t== [97,115,115,117,109,101])=false:=by simpa using h3
 have e4:(t== [97,115,115,101,114,116])=false:=by simpa using h4
 have e5:(t== [105,102])=false:=by simpa using h5
 have e6:(t== [119,104,105,108,101])=false:=by simpa using h6
 have e7:(t== [99,97,108,108])=false:=by simpa using h7
 simp only[List.lookup,e1,e2,e3,e4,e5,e6,e7,if_neg h1,if_neg h2,if_neg h3,if_neg h4,if_neg h5,if_neg h6,if_neg h7]
 rfl
theorem keywords_any (w:World):Calls Tryz.prog 245 #[] w fun e w'=>∃b,e= .returned (.map (some b))∧w.heap.size≤b∧KwM w' b 7 kwTab∧Fr NoT w w':=by
 have hmm:= @run_makeMap Tryz.prog
 obtain⟨w1,u1,k1,g1⟩:=(KwM.made w).put (t:= [115,107,105,112]) (by decide) (begV 1 (kwF 1)) (by decide)
 obtain⟨w2,u2,k2,g2⟩:=k1.put (t:= [105,110,112,117,116]) (by decide) (begV 4 (kwF 4)) (by decide)
 obtain⟨w3,u3,k3,g3⟩:=k2.put (t:= [97,115,115,117,109,101]) (by decide) (begV 5 (kwF 5)) (by decide)
 obtain⟨w4,u4,k4,g4⟩:=k3.put (t:= [97,115,115,101,114,116]) (by decide) (begV 6 (kwF 6)) (by decide)
 obtain⟨w5,u5,k5,g5⟩:=k4.put (t:= [105,102]) (by decide) (begV 7 (kwF 7)) (by decide)
 obtain⟨w6,u6,k6,g6⟩:=k5.put (t:= [119,104,105,108,101]) (by decide) (begV 8 (kwF 8)) (by decide)
 obtain⟨w7,u7,k7,g7⟩:=k6.put (t:= [99,97,108,108]) (by decide) (begV 9 (kwF 9)) (by decide)
 have hf:Fr NoT w w7:=by
  have h0:Fr (fun b=>b=w.heap.size) w w7:=(((((((Fr.refl _ w).alloc (.map #[] 0)).trans (Fr.grown g1 fun g e _=>(Option.some.inj e).symm)).trans (Fr.grown g2 fun g e _=>(Option.some.inj e).symm)).trans (Fr.grown g3 fun g e _=>(Option.some.inj e).symm)).trans (Fr.grown g4 fun g e _=>(Option.some.inj e).symm)).trans (Fr.grown g5 fun g e _=>(Option.some.inj e).symm)).trans (Fr.grown g6 fun g e _=>(Option.some.inj e).symm) |>.trans (Fr.grown g7 fun g e _=>(Option.some.inj e).symm)
  exact h0.mono fun i hi e=>absurd hi (by have e:i=w.heap.size:=e;omega)
 have HK:=hdq k7
 have HF:=hdq hf
 simp only[begV,show kwF 1=277 from by rfl,show kwF 4=278 from by rfl,show kwF 5=279 from by rfl,show kwF 6=279 from by rfl,show kwF 7=280 from by rfl,show kwF 8=281 from by rfl,show kwF 9=282 from by rfl]at u1 u2 u3 u4 u5 u6 u7
 clear k1 k2 k3 k4 k5 k6 k7 g1 g2 g3 g4 g5 g6 g7 hf
 go_enter Tryz.func245,Tryz.ntmps245
 go_wp2_with fail
 go_ret
 exact⟨w.heap.size,rfl,lrq _,HK.out,HF.out⟩

open Go.RowKit Go.Shelf

def StVal (w:World) (L:Nat) (v:Value) (x:St):Prop:=∃p,v= .agg (stC x p).toArray ∧StS w (New L w) x p
structure StmR (C:Pcx) (w:World) (rb sb gb:Nat) (l:List Tk) (d:Nat) (x:St) (u0 u1:Value) (W:World):Prop where
 pa:PaAt C W l d
 st:StAt W sb (w.heap.size+2) x
 raw:Bk W sb 51 #[.int .u8 0,.string ⟨#[]⟩,.slice none 0 0,.slice none 0 0,.slice none 0 0,.slice none 0 0,.int .i64 x.at_]
 beg:Bk W gb 324 #[u0,u1]
 res:Bk W rb 51 #[.int .u8 0,.string ⟨#[]⟩,.slice none 0 0,.slice none 0 0,.slice none 0 0,.slice none 0 0,.int .i64 0]
 fr:Fr NoT w W
theorem stmt_boxes (w w1:World) (a:Int) (hw:w1=(w.alloc (.cells zeroSt 51)).alloc (.cells #[.int .u8 0,.string ⟨#[]⟩,.slice none 0 0,.slice none 0 0,.slice none 0 0,.slice none 0 0,.int .i64 a] 51)):
  Bk w1 w.heap.size 51 zeroSt∧Bk w1 (w.heap.size+1) 51 #[.int .u8 0,.string ⟨#[]⟩,.slice none 0 0,.slice none 0 0,.slice none 0 0,.slice none 0 0,.int .i64 a]∧Fr NoT w w1:=by
 subst hw
 exact⟨(Bk.new _ _ _).alloc _,Bk.new_at _ _ _ (by simp),((Fr.refl _ _).alloc _).alloc _⟩
theorem look_any {w W:World} {b:Nat} {l:List Tk} {k:Int} {tx:ByteArray} (hkk:k=keyK (hdT l).text) (htx:tx=txt (hdT l)) (htl:(hdT l).text.length ≤4096) (h:KwM W b 7 kwTab):
  (Instr.lookup 326 (.map (some b)) (.string tx) true).run Tryz.prog W= .ok (.tuple #[(if k=0 then zeroBeg else begV k (kwF k)),.bool (!(k==0))]) W:=by
 have h1:=h.look (t:=(hdT l).text) (by unfold maxLen;omega)
 rw[kwTab_key,←hkk]at h1
 rw[htx]
 unfold txt
 rw[h1]
 by_cases h0:k=0
 ·subst h0
  rfl
 ·have e:(k==0)=false:=by simpa using h0
  rw[if_neg h0,if_neg h0,e]
  rfl
theorem stmR_a {C:Pcx} {w w1 wk w9:World} {l:List Tk} {d:Nat} {a:Int} {u0 u1:Value} (hL:C.P < w.heap.size∧C.TB < w.heap.size∧C.W0.heap.size≤w.heap.size) (ha:in64 a) (h:PaAt C w l d)
  (hb1:Bk w1 w.heap.size 51 zeroSt) (hb2:Bk w1 (w.heap.size+1) 51 #[.int .u8 0,.string ⟨#[]⟩,.slice none 0 0,.slice none 0 0,.slice none 0 0,.slice none 0 0,.int .i64 a]) (hz:w1.heap.size=w.heap.size+2) (hf1:Fr NoT w w1) (hfk:Fr NoT w1 wk)
  (h9:w9=wk.alloc (.cells #[u0,u1] 324)):
  StmR C w w.heap.size (w.heap.size+1) wk.heap.size l d ⟨0,noB,.nil,.nil,.nil,.nil,a⟩ u0 u1 w9:=by
 have hsk:=hfk.size
 have hfa:Fr NoT wk w9:=by rw[h9];exact(Fr.refl _ _).alloc _
 have hfw:Fr NoT w w9:=(hf1.trans hfk).trans hfa
 refine⟨h.fr hfw id id fun _ _=>id,StAt.new (by unfold in8;omega) ha ((hb2.fr0 hfk).fr0 hfa),(hb2.fr0 hfk).fr0 hfa,?_,(hb1.fr0 hfk).fr0 hfa,hfw⟩
 rw[h9]
 exact Bk.new _ _ _
theorem stmR_b {C:Pcx} {w w1 wa wk w9:World} {l:List Tk} {d:Nat} {a:Int} {u0 u1:Value} (hL:C.P < w.heap.size∧C.TB < w.heap.size∧C.W0.heap.size≤w.heap.size) (ha:in64 a) (h:PaAt C w l d)
  (hb1:Bk w1 w.heap.size 51 zeroSt) (hb2:Bk w1 (w.heap.size+1) 51 #[.int .u8 0,.string ⟨#[]⟩,.slice none 0 0,.slice none 0 0,.slice none 0 0,.slice none 0 0,.int .i64 a]) (hz:w1.heap.size=w.heap.size+2) (hf1:Fr NoT w w1) {z0 z1:Value} (hfa:Fr NoT w1 wa) (hba:Bk wa w1.heap.size 324 #[z0,z1]) (hfk:Fr NoT wa wk)
  (h9:w9=(wk.setCell ⟨w1.heap.size,0,none⟩ u0).setCell ⟨w1.heap.size,1,none⟩ u1):
  StmR C w w.heap.size (w.heap.size+1) w1.heap.size l d ⟨0,noB,.nil,.nil,.nil,.nil,a⟩ u0 u1 w9:=by
 have hsk:=hfk.size
 have hfs:Fr (fun b=>b=w1.heap.size) wk w9:=by rw[h9];exact Fr.own (Fr.own (Fr.refl _ _) _ _) _ _
 have hfw:Fr NoT w w9:=by
  rw[h9]
  exact Fr.high (Fr.high ((hf1.trans hfa).trans hfk) (by omega) _ _) (by omega) _ _
 have hraw:=((hb2.fr0 hfa).fr0 hfk).fr hfs (fun e=>by have e:w.heap.size+1=w1.heap.size:=e;omega)
 refine⟨h.fr hfw id id fun _ _=>id,StAt.new (by unfold in8;omega) ha hraw,hraw,?_,(((hb1.fr0 hfa).fr0 hfk).fr hfs fun e=>?_),hfw⟩
 ·have:=((hba.fr0 hfk).set_ 0 u0).set_ 1 u1
  rw[h9]
  simpa using this
 ·have e:w.heap.size=w1.heap.size:=e
  omega
theorem stmt_fin {C:Pcx} {w w12 w13:World} {x:St} {p:Loc} {r:List Tk} {d:Nat} (hL:C.P < w.heap.size∧C.TB < w.heap.size∧C.W0.heap.size≤w.heap.size) (hs:StS w12 (fun b=>w.heap.size+2≤b∧b < w12.heap.size∧b≠w.heap.size+1) x p) (hp:PaAt C w12 r d) (hf:Fr (PT C (w.heap.size+1)) w w12)
  (h13:w13=((((((w12.setCell ⟨w.heap.size,0,none⟩ (.int .u8 x.k)).setCell ⟨w.heap.size,1,none⟩ (.string x.nm)).setCell ⟨w.heap.size,2,none⟩ (.slice p.A x.args.len p.c)).setCell ⟨w.heap.size,3,none⟩ (.slice p.B x.cond.len p.q)).setCell ⟨w.heap.size,4,none⟩ (.slice p.D x.body.len p.e)).setCell ⟨w.heap.size,5,none⟩ (.slice p.E x.els.len p.f)).setCell ⟨w.heap.size,6,none⟩ (.int .i64 x.at_)):
  EndV C d StVal (.ok x r) w (.returned (.agg #[.int .u8 x.k,.string x.nm,.slice p.A x.args.len p.c,.slice p.B x.cond.len p.q,.slice p.D x.body.len p.e,.slice p.E x.els.len p.f,.int .i64 x.at_])) w13:=by
 have hfr:Fr (fun b=>b=w.heap.size) w12 w13:=by rw[h13];exact Fr.own (Fr.own (Fr.own (Fr.own (Fr.own (Fr.own (Fr.own (Fr.refl _ _) _ _) _ _) _ _) _ _) _ _) _ _) _ _
 have hsz:=hf.size
 refine⟨_,rfl,⟨p,rfl,hs.imp (hfr.same fun b hb=>⟨hb.2.1,fun e=>?_⟩) fun b hb=>⟨by have:=hb.1;omega,by have:=hb.2.1;have:=hfr.size;omega⟩⟩,hp.fr hfr (fun e=>?_) (fun e=>?_) (fun i hi e=>?_),?_⟩
 ·have e:b=w.heap.size:=e
  have:=hb.1
  omega
 ·have e:C.P=w.heap.size:=e
  omega
 ·have e:C.TB=w.heap.size:=e
  omega
 ·have e:i=w.heap.size:=e
  omega
 ·refine((hf.mono (T':=fun b=>b=C.P∨w.heap.size≤b) fun i _ h=>?_).trans (hfr.mono fun i _ h=>?_)).mono fun i hi e=>?_
  ·rcases h with h|h
   ·exact .inl h
   ·exact .inr (by omega)
  ·have h:i=w.heap.size:=h
   exact .inr (by omega)
  ·rcases e with e|e
   ·exact e
   ·omega
theorem stmt_bad {C:Pcx} {w w12:World} {d:Nat} {c a:Int} (hf:Fr (PT C (w.heap.size+1)) w w12):EndV C d StVal (.err c a) w (wrongE c a) w12:=
 ⟨rfl,hf.mono fun i hi e=>by
  rcases e with e|e
  ·exact e
  ·omega⟩
theorem stmt_word (C:Pcx) (n:Nat) (hbk:BlkC C n) (l:List Tk) (d:Nat) (w:World) (k:Int) (hkk:k=keyK (hdT l).text) (hk0:k≠0) (hdn:d+n=24) (hk:C.Ok) (h:PaAt C w l d):
  Calls Tryz.prog 206 #[.pointer (some ⟨C.P,0,none⟩)] w (EndV C d StVal (stmtOf (blockP n) n l) w):=by
 obtain⟨R,hR⟩:=nmq (stmtOf (blockP n) n l)
 rw[←hR]
 have HR:=hdq hR
 have hL:=h.lts
 obtain⟨j,cap,m,hm0,hm1,hl,hmc,hcm,hb,p0,p1,f0,f1,t0,t1,t2,ltP,ltT⟩:=h.cells
 have hm2:m≤9223372036854775807:=by omega
 have hm3:(0:Int) < (m:Int):=by omega
 have htl:(hdT l).text.length ≤4096:=by
  have hd:=drop_head hl h.ne
  exact hk.len _ (List.mem_of_getElem? hd.1)
 obtain⟨a,ha⟩:∃a:Int,a=((hdT l).at_ :Int):=⟨_,rfl⟩
 obtain⟨tx,htx⟩:=nmq (txt (hdT l))
 have h64:in64 a:=by rw[ha];exact in64_at hk h
 rw[←ha]at t2
 rw[←htx]at t1
 have HA:=hdq ha
 obtain⟨w1,hw1⟩:=nmq ((w.alloc (.cells zeroSt 51)).alloc (.cells #[.int .u8 0,.string ⟨#[]⟩,.slice none 0 0,.slice none 0 0,.slice none 0 0,.slice none 0 0,.int .i64 a] 51))
 obtain⟨hb1,hb2,hf1⟩:=stmt_boxes w w1 a hw1
 have hz:w1.heap.size=w.heap.size+2:=by rw[hw1];simp
 have hlive:(hdT l).live :=keyK_live (by rw[←hkk];exact hk0)
 have HLV:=hdq hlive
 have e1:(!(k==0))=true:=by simpa using hk0
 have hlk:∀(W:World) (b:Nat),KwM W b 7 kwTab→(Instr.lookup 326 (.map (some b)) (.string tx) true).run Tryz.prog W= .ok (.tuple #[.agg #[.int .u8 k,.func (.func (kwF k)) #[] #[]],.bool true]) W:=fun W b hW=>by
  have:=look_any (w:=w) hkk htx htl hW
  rw[if_neg hk0,e1]at this
  exact this
 have p10:=(hf1.cell (p:=⟨C.P,0,none⟩) ltP id).trans p0
 have t11:=(hf1.cell (p:=⟨C.TB,j*3+1,none⟩) ltT id).trans t1
 have hP1:C.P < w1.heap.size:=by omega
 have hT1:C.TB < w1.heap.size:=by omega
 have HLK:=hdq hlk
 have HKK:=hdq hkk
 have HK0:=hdq hk0
 have HDN:=hdq hdn
 have HRA:=hdq (fun(wk w9:World) (u0 u1:Value) (hfk:Fr NoT w1 wk) h9=>stmR_a (C:=C) (u0:=u0) (u1:=u1) (w9:=w9) hL h64 h hb1 hb2 hz hf1 hfk h9)
 have HRB:=hdq (fun(wa wk w9:World) (z0 z1 u0 u1:Value) (hfa:Fr NoT w1 wa) hba (hfk:Fr NoT wa wk) h9=>stmR_b (C:=C) (u0:=u0) (u1:=u1) (z0:=z0) (z1:=z1) (w9:=w9) hL h64 h hb1 hb2 hz hf1 hfa hba hfk h9)
 have HW1:=hdq hw1
 have HZ:=hdq hz
 have HBK:=hdq hbk
 have HK:=hdq hk
 have HL:=hdq hL
 have HF1:=hdq hf1
 clear hR hb hm0 hl ha htx hkk hk0 e1 hlk hw1 hb1 hb2 hz hf1 h hbk hk hL hlive htl h64
 go_enter Tryz.func206,Tryz.ntmps206
 go_wp2_with fail
 rw[show(w.alloc (.cells #[.int .u8 0,.string ⟨#[]⟩,.slice none 0 0,.slice none 0 0,.slice none 0 0,.slice none 0 0,.int .i64 0] 51)).alloc (.cells #[.int .u8 0,.string ⟨#[]⟩,.slice none 0 0,.slice none 0 0,.slice none 0 0,.slice none 0 0,.int .i64 a] 51)=w1 from HW1.out.symm]
 clear p0 t1 t2 p1 f0 f1 t0
 go_region_held2 (fun W'=>W'.cell? ⟨C.P,0,none⟩=some (.slice (some ⟨C.TB,j*3,none⟩) m cap)∧W'.cell? ⟨C.TB,j*3+1,none⟩=some (.string tx))
  (first
   |(refine⟨?_,?_⟩<;>with_reducible assumption)
   |(refine⟨(Fr.cell (T:=fun b=>b=gb) (w:=wk) ?_ hPk hPg).trans hpk,(Fr.cell (T:=fun b=>b=gb) (w:=wk) ?_ hTk hTg).trans htk⟩
     all_goals(subst hgb;repeat(first|exact Fr.refl _ _|refine Fr.alloc ?_ _|refine Fr.own ?_ _ _)))
   |(refine⟨(Fr.cell (T:=NoT) (w:=w1) ?_ hP1 id).trans p10,(Fr.cell (T:=NoT) (w:=w1) ?_ hT1 id).trans t11⟩
     all_goals(repeat(first|exact Fr.refl _ _|refine Fr.alloc ?_ _|refine Fr.drew ?_))))
  (first
   |(go_at_call 245
     refine(keywords_any w1.drew).mono ?_
     rintro _ wk ⟨kb,rfl,hkb,hkm,hfk⟩
     have hl1:=HLK.out _ _ hkm
     have hl2:=HLK.out _ _ (hkm.kept (World.grownBy_alloc wk (.cells #[.int .u8 0,.nilFunc] 324) none) (by simp))
     have hfk1:Fr NoT w1 wk:=(Fr.drew (Fr.refl _ _)).trans hfk
     have hpk:=(hfk1.cell (p:=⟨C.P,0,none⟩) hP1 id).trans p10
     have htk:=(hfk1.cell (p:=⟨C.TB,j*3+1,none⟩) hT1 id).trans t11
     have hPk:=ltq hP1 hfk1.size
     have hTk:=ltq hT1 hfk1.size
     obtain⟨gb,hgb⟩:=nmq wk.heap.size
     have hPg:¬C.P=gb:=by omega
     have hTg:¬C.TB=gb:=by omega
     have HE:=hdq (fun w9 h9=>HRA.out wk w9 (.int .u8 k) (.func (.func (kwF k)) #[] #[]) hfk1 h9)
     clear hkm hfk)
   |(go_at_call 245
     refine(keywords_any (w1.alloc (.cells #[.int .u8 0,.nilFunc] 324)).drew).mono ?_
     rintro _ wk ⟨kb,rfl,hkb,hkm,hfk⟩
     have hl1:=HLK.out _ _ hkm
     have hfa:Fr NoT w1 (w1.alloc (.cells #[.int .u8 0,.nilFunc] 324)).drew :=Fr.drew ((Fr.refl _ _).alloc _)
     have hba:Bk (w1.alloc (.cells #[.int .u8 0,.nilFunc] 324)).drew w1.heap.size 324 #[.int .u8 0,.nilFunc]:=Bk.new _ _ _
     have hfk1:Fr NoT w1 wk:=hfa.trans hfk
     have hpk:=(hfk1.cell (p:=⟨C.P,0,none⟩) hP1 id).trans p10
     have htk:=(hfk1.cell (p:=⟨C.TB,j*3+1,none⟩) hT1 id).trans t11
     have hPk:=ltq hP1 hfk1.size
     have hTk:=ltq hT1 hfk1.size
     obtain⟨gb,hgb⟩:=nmq w1.heap.size
     have hPg:¬C.P=gb:=by omega
     have hTg:¬C.TB=gb:=by omega
     have hbk:=hba.fr0 hfk
     have q0:=hbk.cell 0
     have q1:=hbk.cell 1
     have g0:=hbk.frozen 0
     have g1:=hbk.frozen 1
     have hgl:=hbk.lt
     simp only[getsL]at q0 q1
     have HE:=hdq (fun w9 h9=>HRB.out _ wk w9 (.int .u8 0) .nilFunc (.int .u8 k) (.func (.func (kwF k)) #[] #[]) hfa hba hfk h9)
     clear hkm hfk hba hfa hbk))
 all_goals
  have hS:=HE.out _ rfl
  have hps:=pass_any C l d _ HK.out hS.pa HLV.out
  unfold pP PassP tkV at hps
  have HS:=hdq hS
  have HPS:=hdq hps
  have HG:=hdq hgb
  have hgs:w.heap.size+2≤gb:=by rw[hgb];have:=hfk1.size;have:=HZ.out;omega
  clear hl1 hpk htk hPk hTk hPg hTg hS hps HE hgb
  try clear hl2
  try clear q0 q1 g0 g1 hgl
  go_wp2_with fail
  refine HPS.out.mono ?_
  rintro e w10 ⟨rfl,hp,hf⟩
  have hL:=HL.out
  have hbg:=HS.out.beg.fr hf (fun e=>by have e:_=C.P:=e;have:=HG.out;omega)
  rw[←HG.out]at hbg ⊢
  have hst:=HS.out.st.fr hf (by omega) (by omega)
  have hsl:w.heap.size+1 < w10.heap.size:=by
   obtain⟨q,hq,_⟩:=hst
   exact hq.lt
  have hrs:=HS.out.res.fr hf (fun e=>by have e:w.heap.size=C.P:=e;omega)
  have hfw:=HS.out.fr.any.trans hf
  obtain⟨w11,hw11⟩:=nmq (w10.setCell ⟨w.heap.size+1,0,none⟩ (.int .u8 k))
  have hst1:=hst.kind (k:=k) (by rcases keyK_cases (hdT l).text with h|h|h|h|h|h|h|h<;>unfold in8<;>have:=HKK.out<;>omega)
  have hfs:Fr (fun b=>b=w.heap.size+1) w10 w11:=by rw[hw11];exact Fr.own (Fr.refl _ _) _ _
  rw[←hw11]at hst1
  have hb1:=(hbg.fr hfs (fun e=>by have e:gb=w.heap.size+1:=e;omega)).cell 1
  have hb0:=hbg.cell 0
  have hp1:PaAt C w11 l.tail d:=hp.fr hfs (fun e=>by have e:C.P=w.heap.size+1:=e;omega) (fun e=>by have e:C.TB=w.heap.size+1:=e;omega) (fun i hi e=>by have e:i=w.heap.size+1:=e;omega)
  have hwd:=word_any C n HBK.out (w.heap.size+1) (w.heap.size+2) l d w11 k a HKK.out HK0.out HA.out HDN.out HK.out hp1 hst1 (by omega) (by omega) (by omega) (by omega) (by have:=hfs.size;omega)
  obtain⟨q,hq,_⟩:=hst
  have s0:=hq.cell 0
  have z0:=hq.frozen 0
  simp only[stC,List.getElem?_toArray,List.getElem?_cons_succ,List.getElem?_cons_zero]at s0 hb0 hb1
  rw[hw11]at hwd hb1
  have HWD:=hdq hwd
  have HRS:=hdq (hrs.fr hfs (fun e=>by have e:w.heap.size=w.heap.size+1:=e;omega))
  have HFW:=hdq ((PT.l hfw (rb:=w.heap.size+1)).trans (hfs.mono fun i _ h=> .inr h))
  have HW11:=hdq hw11
  have hent:=kw_enters k
  unfold Enters at hent
  clear hp hf hbg hrs hfw hst1 hp1 hwd hw11 hfs hL hq
  go_wp2_with fail
  refine HWD.out.mono ?_
  intro e w12 hE
  have hlL:=HL.out
  unfold MetP at hE
  cases hx:stmtOf (blockP n) n l with
  |err c a=>
   rw[hx]at hE
   obtain⟨rfl,hf⟩:=hE
   rw[←HW11.out]at hf
   have HFF:=hdq (HFW.out.trans hf)
   unfold wrongE
   clear hf
   go_wp2_with fail
   rw[HR.out,hx]
   exact⟨rfl,stmt_bad HFF.out⟩
  |ok x r=>
   rw[hx]at hE
   obtain⟨rfl,⟨p,hb,hs⟩,hp,hf⟩:=hE
   rw[←HW11.out]at hf
   have hrb:=HRS.out.fr hf (fun e=>by rcases e with e|e<;>omega)
   have b0:=hb.cell 0
   have b1:=hb.cell 1
   have b2:=hb.cell 2
   have b3:=hb.cell 3
   have b4:=hb.cell 4
   have b5:=hb.cell 5
   have b6:=hb.cell 6
   have r0:=hrb.cell 0
   have r1:=hrb.cell 1
   have r2:=hrb.cell 2
   have r3:=hrb.cell 3
   have r4:=hrb.cell 4
   have r5:=hrb.cell 5
   have r6:=hrb.cell 6
   have y0:=hrb.frozen 0
   have y1:=hrb.frozen 1
   have y2:=hrb.frozen 2
   have y3:=hrb.frozen 3
   have y4:=hrb.frozen 4
   have y5:=hrb.frozen 5
   have y6:=hrb.frozen 6
   simp only[stC,List.getElem?_toArray,List.getElem?_cons_succ,List.getElem?_cons_zero]at b0 b1 b2 b3 b4 b5 b6 r0 r1 r2 r3 r4 r5 r6
   have hlt:=hrb.lt
   have HSS:=hdq hs
   have HPP:=hdq hp
   have HFF:=hdq (HFW.out.trans hf)
   have HX:=hdq hx
   clear hb hs hp hf hx hrb hlL
   go_wp2_with fail
   refine bodyPost_ret (v:= .agg #[.int .u8 x.k,.string x.nm,.slice p.A x.args.len p.c,.slice p.B x.cond.len p.q,.slice p.D x.body.len p.e,.slice p.E x.els.len p.f,.int .i64 x.at_]) (by simp[results,Tryz.results206,go_sem,r0,r1,r2,r3,r4,r5,r6,hlt]) rfl ?_
   rw[HR.out,HX.out]
   exact stmt_fin HL.out HSS.out HPP.out HFF.out rfl

def StRow (w:World) (S:Nat→Prop):List St→List Value→Prop
 | [],cs=>cs= []
 |x::xs,cs=>∃p cs',cs=stC x p++cs'∧StS w S x p∧StRow w S xs cs'
theorem StRow.imp {w w':World} {S S':Nat→Prop} (hf:SameS S w w') (hs:∀b,S b→S' b):∀ {xs:List St} {cs:List Value},StRow w S xs cs→StRow w' S' xs cs
 | [],_,h=>h
 |x::xs,cs,h=>by
  obtain⟨p,cs',e,h1,h5⟩:=h
  exact⟨p,cs',e,h1.imp hf hs,StRow.imp hf hs h5⟩
theorem StRow.snoc {w:World} {S:Nat→Prop} {y:St} {p:Loc} (hy:StS w S y p):∀ {xs:List St} {cs:List Value},StRow w S xs cs→StRow w S (xs++ [y]) (cs++stC y p)
 | [],cs,h=>by
  have h:cs= []:=h
  subst h
  exact⟨p, [],by simp,hy,rfl⟩
 |x::xs,cs,h=>by
  obtain⟨q,cs',e,h1,h5⟩:=h
  exact⟨q,cs'++stC y p,by rw[e,List.append_assoc],h1,StRow.snoc hy h5⟩
theorem StRow.len {w:World} {S:Nat→Prop}:∀ {xs:List St} {cs:List Value},StRow w S xs cs→cs.length=xs.length*7
 | [],cs,h=>by
  have h:cs= []:=h
  subst h;rfl
 |x::xs,cs,h=>by
  obtain⟨q,cs',e,h1,h5⟩:=h
  rw[e,List.length_append,StRow.len h5]
  simp[stC];omega
theorem StRow.stR {w:World} {S:Nat→Prop} {g:Nat} (hg:S g):∀ {xs:List St} {cs:List Value} {o:Nat},StRow w S xs cs→(∀j u,cs[j]?=some u→w.cell? ⟨g,o+j,none⟩=some u)→StR w S False (stsOf xs) g o
 | [],_,_,_,_=>trivial
 |x::xs,cs,o,h,hc=>by
  obtain⟨p,cs',e,h1,h5⟩:=h
  subst e
  refine⟨⟨hg,fun h=>absurd h id,h1.k,h1.at_,hc 0 _ rfl,hc 1 _ rfl,hc 6 _ rfl⟩,⟨_,_,hc 2 _ rfl,h1.args⟩,⟨_,_,hc 3 _ rfl,h1.cond⟩,⟨_,_,hc 4 _ rfl,h1.body⟩,⟨_,_,hc 5 _ rfl,h1.els⟩,?_⟩
  refine StRow.stR hg h5 fun j u hj=>?_
  have:=hc (7+j) u (by rw[List.getElem?_append_right (by simp[stC])];simpa[stC]using hj)
  rw[Nat.add_assoc]
  exact this
theorem blk_end {L:Nat} {w:World} {v:Value} {acc:List St} {cs:List Value} {S:Nat→Prop} (hr:w.ownsRow L 51 7 v acc.length cs) (hx:StRow w S acc cs) (hs:∀b,S b→L≤b∧b < w.heap.size) (hf:acc.length≤5001):StlV w L v acc:=by
 rcases hr.2 with⟨rfl,h0⟩|⟨g,cap,cur,rfl,hb,hg,hn,hc,hcs,ht⟩
 ·exact⟨none,0,by rw[stsOf_len,h0],by rw[stsOf_len,h0];exact⟨lrq _,⟨by decide,by omega⟩,fun h=>absurd h (Nat.lt_irrefl 0)⟩⟩
 ·have hl:g < w.heap.size:=(Array.getElem?_eq_some_iff.1 hg).1
  have hcc:cap≤9223372036854775807:=by unfold maxLen at hc;omega
  suffices hx2:StR w (New L w) False (stsOf acc) g 0 by
   exact⟨some ⟨g,0,none⟩,cap,by rw[stsOf_len],by rw[stsOf_len];exact⟨hn,⟨hcc,by omega⟩,fun _=>⟨g,0,rfl,hx2⟩⟩⟩
  refine StRow.stR ⟨hb,hl⟩ (StRow.imp (SameS.refl _ _) hs hx) fun j u hj=>?_
  have:=hr.cells (g:=g) rfl j u hj
  have hadd:(⟨g,0,none⟩:Addr).add j=⟨g,0+j,none⟩:=by
   rw[Nat.zero_add];unfold Addr.add;split<;>simp_all
  rw[hadd]at this
  exact this
theorem row_put {w:World} {base:Nat} {e:TypeId} {size g n cap:Nat} {xs:List Value} (h:w.ownsRow base e size (.slice (some ⟨g,0,none⟩) n cap) n xs) (j:Nat) (u:Value):(w.setCell ⟨g,j,none⟩ u).ownsRow base e size (.slice (some ⟨g,0,none⟩) n cap) n (xs.set j u):=(h.stored j u).1
structure BlkX (C:Pcx) (w:World) (d:Nat) (R:PR (List St)) (one:List Tk→PR St) (lb pb:Nat) (v:Value) (wr:World) (acc:List St) (cs:List Value) (l:List Tk):Prop where
 eq:∃f,R=stmtsF one f acc l∧l.length≤f
 lcell:Bk wr lb 25 #[v]
 row:wr.ownsRow w.heap.size 51 7 v acc.length cs
 rows:StRow wr (NewR w.heap.size v wr) acc cs
 few:acc.length+l.length≤5000
 pa:PaAt C wr l d
 fr:Fr (PT C lb) w wr
theorem BlkX.step {C:Pcx} {w wr w7 w9:World} {d:Nat} {R:PR (List St)} {one:List Tk→PR St} {lb pb f:Nat} {v:Value} {acc:List St} {cs:List Value} {r r2:List Tk} {x:St} {p:Loc} {g cap:Nat}
  (hL:C.P < w.heap.size∧C.TB < w.heap.size∧C.W0.heap.size≤w.heap.size) (hlb:lb < w.heap.size) (hlP:lb≠C.P) (hlT:lb≠C.TB) (hl0:C.W0.heap.size≤lb)
  (hx:BlkX C w d R one lb pb v wr acc cs r) (hR:R=stmtsF one f (acc++ [x]) r2) (hrf:r2.length≤f) (hr2:r2.length < r.length)
  (hv:StS w7 (New wr.heap.size w7) x p) (hp:PaAt C w7 r2 d) (hf:Fr C.T wr w7) (W:World) (hwa:Fr NoT w7 W)
  (hown:w9.ownsRow w.heap.size 51 7 (.slice (some ⟨g,0,none⟩) (acc.length+1) cap) (acc.length+1) (cs++zeroSt.toList))
  (hg:W.grownBy w9 v.ownBlock) (hsp:v.ownBlock=some g∨g=W.heap.size) (w10:World)
  (hw10:w10=(((((((w9.setCell ⟨g,acc.length*7,none⟩ (.int .u8 x.k)).setCell ⟨g,acc.length*7+1,none⟩ (.string x.nm)).setCell ⟨g,acc.length*7+2,none⟩ (.slice p.A x.args.len p.c)).setCell ⟨g,acc.length*7+3,none⟩ (.slice p.B x.cond.len p.q)).setCell ⟨g,acc.length*7+4,none⟩ (.slice p.D x.body.len p.e)).setCell ⟨g,acc.length*7+5,none⟩ (.slice p.E x.els.len p.f)).setCell ⟨g,acc.length*7+6,none⟩ (.int .i64 x.at_)).setCell ⟨lb,0,none⟩ (.slice (some ⟨g,0,none⟩) (acc.length+1) cap)):
  BlkX C w d R one lb pb (.slice (some ⟨g,0,none⟩) (acc.length+1) cap) w10 (acc++ [x]) (cs++stC x p) r2:=by
 have hlt:=hx.row.lt
 have hsF:=hx.fr.size
 have hsf:=hf.size
 have hsw:=hwa.size
 have hsg:=hg.size
 have hcl:=hx.rows.len
 have hgl:=hown.lt g rfl
 have hglb:g≠lb:=by omega
 have hgP:g≠C.P:=by omega
 obtain⟨w8,hw8⟩:=nmq (((((((w9.setCell ⟨g,acc.length*7,none⟩ (.int .u8 x.k)).setCell ⟨g,acc.length*7+1,none⟩ (.string x.nm)).setCell ⟨g,acc.length*7+2,none⟩ (.slice p.A x.args.len p.c)).setCell ⟨g,acc.length*7+3,none⟩ (.slice p.B x.cond.len p.q)).setCell ⟨g,acc.length*7+4,none⟩ (.slice p.D x.body.len p.e)).setCell ⟨g,acc.length*7+5,none⟩ (.slice p.E x.els.len p.f)).setCell ⟨g,acc.length*7+6,none⟩ (.int .i64 x.at_))
 rw[←hw8]at hw10
 have hz8:w8.heap.size=w9.heap.size:=by rw[hw8];simp
 have hz10:w10.heap.size=w9.heap.size:=by rw[hw10];simp[hz8]
 have hf98:Fr (fun b=>b=g) w9 w8:=by rw[hw8];exact Fr.own (Fr.own (Fr.own (Fr.own (Fr.own (Fr.own (Fr.own (Fr.refl _ _) _ _) _ _) _ _) _ _) _ _) _ _) _ _
 have hf80:Fr (fun b=>b=lb) w8 w10:=by rw[hw10];exact Fr.own (Fr.refl _ _) _ _
 have hrow8:w8.ownsRow w.heap.size 51 7 (.slice (some ⟨g,0,none⟩) (acc.length+1) cap) (acc.length+1) (cs++stC x p):=by
  have h1:=row_put (row_put (row_put (row_put (row_put (row_put (row_put hown (acc.length*7) (.int .u8 x.k)) (acc.length*7+1) (.string x.nm)) (acc.length*7+2) (.slice p.A x.args.len p.c)) (acc.length*7+3) (.slice p.B x.cond.len p.q)) (acc.length*7+4) (.slice p.D x.body.len p.e)) (acc.length*7+5) (.slice p.E x.els.len p.f)) (acc.length*7+6) (.int .i64 x.at_)
  rw[←hw8]at h1
  have e:(((((((cs++zeroSt.toList).set (acc.length*7) (.int .u8 x.k)).set (acc.length*7+1) (.string x.nm)).set (acc.length*7+2) (.slice p.A x.args.len p.c)).set (acc.length*7+3) (.slice p.B x.cond.len p.q)).set (acc.length*7+4) (.slice p.D x.body.len p.e)).set (acc.length*7+5) (.slice p.E x.els.len p.f)).set (acc.length*7+6) (.int .i64 x.at_)=cs++stC x p:=by
   rw[←hcl]
   simp[List.set_append,zeroSt,stC]
  rw[e]at h1
  exact h1
 have hW9:Fr (fun b=>v.ownBlock=some b) W w9:=Fr.grown hg fun g e _=>e
 have h79:Fr (fun b=>v.ownBlock=some b) w7 w9:=hwa.any.trans hW9
 have h7x:Fr (fun b=>v.ownBlock=some b∨b=g∨b=lb) w7 w10:=((h79.mono fun i _ h=>Or.inl h).trans (hf98.mono fun i _ h=>Or.inr (Or.inl h))).trans (hf80.mono fun i _ h=>Or.inr (Or.inr h))
 have hrx:Fr (fun b=>b=C.P∨v.ownBlock=some b∨b=g∨b=lb) wr w10:=(hf.mono fun i _ h=>Or.inl h).trans (h7x.mono fun i _ h=>Or.inr h)
 have hgn:∀b,b < w7.heap.size→v.ownBlock≠some b→b≠g:=fun b hb hn e=>by
  subst e
  rcases hsp with h|h
  ·exact hn h
  ·omega
 have hvl:v.ownBlock≠some lb:=fun e=>by have:=(hlt _ e).1;omega
 have hvP:v.ownBlock≠some C.P:=fun e=>by have:=(hlt _ e).1;omega
 have hvT:v.ownBlock≠some C.TB:=fun e=>by have:=(hlt _ e).1;omega
 refine⟨⟨f,hR,hrf⟩,?_,?_,?_,?_,?_,?_⟩
 ·have h1:Bk w8 lb 25 #[v]:=((hx.lcell.fr hf (fun e=>hlP e)).fr h79 hvl).fr hf98 fun e=>hglb (by have e:lb=g:=e;exact e.symm)
  rw[hw10]
  simpa using h1.set_ 0 (.slice (some ⟨g,0,none⟩) (acc.length+1) cap)
 ·rw[hw10]
  have:=ownsRow_setCell_below hrow8 (a:=⟨lb,0,none⟩) hlb (.slice (some ⟨g,0,none⟩) (acc.length+1) cap)
  simpa using this
 ·refine StRow.snoc (hv.imp (h7x.same fun b hb=>⟨hb.2,fun e=>?_⟩) fun b hb=>⟨by have:=hb.1;omega,by have:=hb.2;omega,fun e=>?_⟩) (StRow.imp (hrx.same fun b hb=>⟨hb.2.1,fun e=>?_⟩) (fun b hb=>⟨hb.1,by have:=hb.2.1;omega,fun e=>?_⟩) hx.rows)
  ·have h1:=hb.1
   have h2:=hb.2
   rcases e with e|e|e
   ·have:=(hlt _ e).2;omega
   ·exact hgn b h2 (fun e=>by have:=(hlt _ e).2;omega) e
   ·omega
  ·have h1:=hb.1
   have h2:=hb.2.1
   have h3:=hb.2.2
   rcases e with e|e|e|e
   ·omega
   ·exact h3 e
   ·exact hgn b (by omega) h3 e
   ·omega
  ·have h1:=hb.1
   have h2:=hb.2
   have e:g=b:=by simpa[Value.ownBlock]using e
   exact hgn b h2 (fun e=>by have:=(hlt _ e).2;omega) e.symm
  ·have h2:=hb.2.1
   have e:g=b:=by simpa[Value.ownBlock]using e
   exact hgn b (by omega) hb.2.2 e.symm
 ·have:=hx.few
  rw[List.length_append,List.length_cons,List.length_nil]
  omega
 ·refine hp.fr h7x (fun e=>?_) (fun e=>?_) (fun i hi e=>?_)
  ·rcases e with e|e|e
   ·exact hvP e
   ·exact hgP e.symm
   ·exact hlP e.symm
  ·rcases e with e|e|e
   ·exact hvT e
   ·omega
   ·exact hlT e.symm
  ·rcases e with e|e|e
   ·have:=(hlt _ e).1;omega
   ·omega
   ·omega
 ·refine((hx.fr.mono (T':=fun b=>b=C.P∨v.ownBlock=some b∨b=g∨b=lb) fun i _ h=>?_).trans hrx).mono fun i hi e=>?_
  ·rcases h with h|h
   ·exact .inl h
   ·exact .inr (.inr (.inr h))
  ·rcases e with e|e|e|e
   ·exact .inl e
   ·have:=(hlt _ e).1;omega
   ·omega
   ·exact .inr e

def setE (n:Nat) (k:Int) (nm:ByteArray) (a:Int) (acc:List Ex) (r:List Tk):PR St:=(takeP [61] r).then fun _ r=>(exprP n r).then fun e r=>endS ⟨k,nm,exsOf (acc++ [e]),.nil,.nil,.nil,a⟩ r
def setO (n:Nat) (nm:ByteArray) (a:Int) (r:List Tk):PR St:=if mayB [91] r then(indexP n r).then fun i r=>setE n 3 nm a [i] r else setE n 2 nm a [] r
theorem stmtOf_set {blk:List Tk→PR (List St)} {n:Nat} {l:List Tk} (h:keyK (hdT l).text =0):stmtOf blk n l=(nameP l).then fun x r=>setO n x.nm ((hdT l).at_ :Int) r:=by
 unfold stmtOf
 simp only[h]
 rw[if_neg (by decide),if_neg (by decide),if_neg (by decide),if_neg (by decide),if_neg (by decide),if_neg (by decide)]
 rfl
structure SetX (C:Pcx) (w:World) (d:Nat) (k:Int) (nm:ByteArray) (a:Int) (v:Value) (acc:List Ex) (cs:List Value) (r:List Tk) (W:World):Prop where
 pa:PaAt C W r d
 st:Bk W (w.heap.size+1) 51 #[.int .u8 k,.string nm,v,.slice none 0 0,.slice none 0 0,.slice none 0 0,.int .i64 a]
 res:Bk W w.heap.size 51 zeroSt
 row:W.ownsRow (w.heap.size+2) 175 5 v acc.length cs
 rows:ExRow W (NewR (w.heap.size+2) v W) acc cs
 fr:Fr (PT C (w.heap.size+1)) w W
 few:acc.length≤1
theorem SetX.next {C:Pcx} {w W W':World} {d:Nat} {k a:Int} {nm:ByteArray} {v:Value} {acc:List Ex} {cs:List Value} {r r':List Tk} (hL:C.P < w.heap.size∧C.TB < w.heap.size∧C.W0.heap.size≤w.heap.size) (h:SetX C w d k nm a v acc cs r W) (hf:Fr C.T W W') (hp:PaAt C W' r' d):SetX C w d k nm a v acc cs r' W':=
 ⟨hp,h.st.fr hf fun e=>by have e:w.heap.size+1=C.P:=e;omega,h.res.fr hf fun e=>by have e:w.heap.size=C.P:=e;omega,row_keep h.row hf (by omega),
  h.rows.imp (hf.same fun b hb=>⟨hb.2.1,fun e=>by have e:b=C.P:=e;have:=hb.1;omega⟩) fun b hb=>⟨hb.1,ltq hb.2.1 hf.size,hb.2.2⟩,h.fr.trans (PT.l hf),h.few⟩
theorem SetX.alloc {C:Pcx} {w W:World} {d:Nat} {k a:Int} {nm:ByteArray} {v:Value} {acc:List Ex} {cs:List Value} {r:List Tk} (hL:C.P < w.heap.size∧C.TB < w.heap.size∧C.W0.heap.size≤w.heap.size) (h:SetX C w d k nm a v acc cs r W) (o:Obj):SetX C w d k nm a v acc cs r (W.alloc o):=
 h.next hL ((Fr.refl _ _).alloc _) (h.pa.alloc o)
theorem SetX.start {C:Pcx} {w w10 w11:World} {d:Nat} {a:Int} {nm:ByteArray} {r:List Tk} (hL:C.P < w.heap.size∧C.TB < w.heap.size∧C.W0.heap.size≤w.heap.size)
  (hb:Bk w10 (w.heap.size+1) 51 #[.int .u8 0,.string ⟨#[]⟩,.slice none 0 0,.slice none 0 0,.slice none 0 0,.slice none 0 0,.int .i64 a]) (hr:Bk w10 w.heap.size 51 zeroSt) (hp:PaAt C w10 r d) (hf:Fr C.T w w10)
  (h11:w11=(w10.setCell ⟨w.heap.size+1,0,none⟩ (.int .u8 2)).setCell ⟨w.heap.size+1,1,none⟩ (.string nm)):SetX C w d 2 nm a (.slice none 0 0) [] [] r w11:=by
 have hfs:Fr (fun b=>b=w.heap.size+1) w10 w11:=by rw[h11];exact Fr.own (Fr.own (Fr.refl _ _) _ _) _ _
 refine⟨hp.fr hfs (fun e=>by have e:C.P=w.heap.size+1:=e;omega) (fun e=>by have e:C.TB=w.heap.size+1:=e;omega) (fun i hi e=>by have e:i=w.heap.size+1:=e;omega),?_,hr.fr hfs (fun e=>by have e:w.heap.size=w.heap.size+1:=e;omega),World.ownsRow_nil _ _ _ _,rfl,(PT.l hf).trans (hfs.mono fun i _ h=> .inr h),Nat.zero_le _⟩
 have:=(hb.set_ 0 (.int .u8 2)).set_ 1 (.string nm)
 rw[h11]
 simpa using this
theorem ownsRow_one {w:World} {base g:Nat} {e:TypeId} {cs:List Value} {size:Nat} (hb:Bk w g e cs.toArray) (hg:base≤g) (hs:cs.length=1*size):w.ownsRow base e size (.slice (some ⟨g,0,none⟩) 1 1) 1 cs:=
 ⟨hs,.inr ⟨g,1,cs.toArray,rfl,hg,hb,lrq _,by decide,by simpa using hs,by rw[←hs];simp⟩⟩
theorem SetX.index {C:Pcx} {w W w2 w3:World} {d:Nat} {a:Int} {nm:ByteArray} {r r':List Tk} {i:Ex} {A:Option Addr} {c:Nat} (hL:C.P < w.heap.size∧C.TB < w.heap.size∧C.W0.heap.size≤w.heap.size) (h:SetX C w d 2 nm a (.slice none 0 0) [] [] r W)
  (hf:Fr C.T W w2) (hp:PaAt C w2 r' d) (hv:ExV w2 W.heap.size (exV i.k i.nm i.n A i.args.len c i.at_) i)
  (h3:w3=((w2.setCell ⟨w.heap.size+1,0,none⟩ (.int .u8 3)).setCell ⟨w.heap.size+1,2,none⟩ (.slice (some ⟨w2.heap.size,0,none⟩) 1 1)).alloc (.cells (exC i A c).toArray 175)):
  SetX C w d 3 nm a (.slice (some ⟨w2.heap.size,0,none⟩) 1 1) [i] (exC i A c) r' w3:=by
 have hlt:=h.st.lt
 have hsf:=hf.size
 have h1:=h.next hL hf hp
 have hn:Bk w3 w2.heap.size 175 (exC i A c).toArray :=by rw[h3];exact Bk.new_at _ _ _ (by simp)
 have hfs:Fr (fun b=>b=w.heap.size+1) w2 w3:=by rw[h3];exact(Fr.own (Fr.own (Fr.refl _ _) _ _) _ _).alloc _
 obtain⟨x1,x2,x3,Ax,cx,ex,hsx⟩:=hv
 simp only[exV,Value.agg.injEq,Array.mk.injEq,List.cons.injEq,Value.slice.injEq,true_and,and_true]at ex
 obtain⟨rfl,rfl⟩:=ex
 have hz3:w3.heap.size=w2.heap.size+1:=by rw[h3];simp
 refine⟨h1.pa.fr hfs (fun e=>by have e:C.P=w.heap.size+1:=e;omega) (fun e=>by have e:C.TB=w.heap.size+1:=e;omega) (fun i hi e=>by have e:i=w.heap.size+1:=e;omega),?_,h1.res.fr hfs (fun e=>by have e:w.heap.size=w.heap.size+1:=e;omega),
  ownsRow_one hn (by omega) rfl,⟨A,c, [],by simp,x1,x2,x3,?_,rfl⟩,h1.fr.trans (hfs.mono fun i _ h=> .inr h),lrq _⟩
 ·have:=((h1.st.set_ 0 (.int .u8 3)).set_ 2 (.slice (some ⟨w2.heap.size,0,none⟩) 1 1)).alloc (.cells (exC i A c).toArray 175)
  rw[h3]
  simpa using this
 ·have hfa:=hfs
  refine hsx.imp fun _ _ h=>ExR.more (fun b hb=>?_) (ExR.keep (hfa.same fun b hb=>⟨hb.2,fun e=>?_⟩) h)
  ·have h1:=hb.1
   have h2:=hb.2
   exact⟨by omega,by omega,fun e=>by have e:w2.heap.size=b:=(by simpa[Value.ownBlock]using e);omega⟩
  ·have e:b=w.heap.size+1:=e
   have:=hb.1
   omega
theorem at_value {P:Program} {ops:Array Oper} {o:Oper} {a:Act} {w:World} {K:Act→World→Prop} {Q:Exit→Act→World→Prop} {E:Prop} (f:Operand) (xs:Array Operand) (ts:Array TypeId) (h:o.op= .call {callee:= .value f,args:=xs,argTypes:=ts})
  (g:if Region.wanted o (yielded ops a.tmps)=true then Oper.wp P o a w K Q else E):if Region.wanted o (yielded ops a.tmps)=true then Oper.wp P o a w K Q else E:=g
theorem Bk.news {w:World} {g:Nat} {t:TypeId} {cs:Array Value} (h:Bk w g t cs):∀j u,cs.toList[j]?=some u→w.cell? ((⟨g,0,none⟩:Addr).add j)=some u:=World.news_of_block (fr:=(0,0)) (t:=t) h
def zeroEx:Array Value:= #[.int .u8 0,.string ⟨#[]⟩,.int .i64 0,.slice none 0 0,.int .i64 0]
theorem row_zero5 {w:World} {base:Nat} {e:TypeId} {g cap n:Nat} {cs:List Value} (h:w.ownsRow base e 5 (.slice (some ⟨g,0,none⟩) (n+1) cap) (n+1) (cs++zeroEx.toList)) (hl:cs.length=n*5):
  w.cell? ⟨g,n*5,none⟩=some (.int .u8 0)∧w.cell? ⟨g,n*5+1,none⟩=some (.string ⟨#[]⟩)∧w.cell? ⟨g,n*5+2,none⟩=some (.int .i64 0)∧w.cell? ⟨g,n*5+3,none⟩=some (.slice none 0 0)∧w.cell? ⟨g,n*5+4,none⟩=some (.int .i64 0)∧∀j,w.frozen? ⟨g,j,none⟩=false:=by
 have key:∀j,j < 5→w.cell? ⟨g,n*5+j,none⟩=zeroEx.toList[j]?:=fun j hj=>by
  rw[h.cellAt (n*5+j) (by omega),List.getElem?_append_right (by omega),hl,Nat.add_sub_cancel_left]
 exact⟨key 0 (by omega),key 1 (by omega),key 2 (by omega),key 3 (by omega),key 4 (by omega),fun j=>h.frozenAt j⟩
structure SetY (C:Pcx) (w:World) (d:Nat) (x:St) (p:Loc) (r:List Tk) (W:World):Prop where
 pa:PaAt C W r d
 st:Bk W (w.heap.size+1) 51 (stC x p).toArray
 res:Bk W w.heap.size 51 zeroSt
 hs:StS W (fun b=>w.heap.size+2≤b∧b < W.heap.size∧b≠w.heap.size+1) x p
 fr:Fr (PT C (w.heap.size+1)) w W
theorem SetY.next {C:Pcx} {w W W':World} {d:Nat} {x:St} {p:Loc} {r r':List Tk} (hL:C.P < w.heap.size∧C.TB < w.heap.size∧C.W0.heap.size≤w.heap.size) (h:SetY C w d x p r W) (hf:Fr C.T W W') (hp:PaAt C W' r' d):SetY C w d x p r' W':=
 ⟨hp,h.st.fr hf fun e=>by have e:w.heap.size+1=C.P:=e;omega,h.res.fr hf fun e=>by have e:w.heap.size=C.P:=e;omega,
  h.hs.imp (hf.same fun b hb=>⟨hb.2.1,fun e=>by have e:b=C.P:=e;have:=hb.1;omega⟩) fun b hb=>⟨hb.1,ltq hb.2.1 hf.size,hb.2.2⟩,h.fr.trans (PT.l hf)⟩
theorem SetX.step {C:Pcx} {w wr w7 w9:World} {d:Nat} {k a:Int} {nm:ByteArray} {v:Value} {acc:List Ex} {cs:List Value} {r r2:List Tk} {x:Ex} {A:Option Addr} {c g cap:Nat}
  (hL:C.P < w.heap.size∧C.TB < w.heap.size∧C.W0.heap.size≤w.heap.size) (hk8:in8 k) (ha:in64 a)
  (hx:SetX C w d k nm a v acc cs r wr) (hv:ExV w7 wr.heap.size (exV x.k x.nm x.n A x.args.len c x.at_) x) (hp:PaAt C w7 r2 d) (hf:Fr C.T wr w7) (W:World) (hwa:Fr NoT w7 W)
  (hown:w9.ownsRow (w.heap.size+2) 175 5 (.slice (some ⟨g,0,none⟩) (acc.length+1) cap) (acc.length+1) (cs++zeroEx.toList))
  (hg:W.grownBy w9 v.ownBlock) (hsp:v.ownBlock=some g∨g=W.heap.size) (w10:World)
  (hw10:w10=(((((w9.setCell ⟨g,acc.length*5,none⟩ (.int .u8 x.k)).setCell ⟨g,acc.length*5+1,none⟩ (.string x.nm)).setCell ⟨g,acc.length*5+2,none⟩ (.int .i64 x.n)).setCell ⟨g,acc.length*5+3,none⟩ (.slice A x.args.len c)).setCell ⟨g,acc.length*5+4,none⟩ (.int .i64 x.at_)).setCell ⟨w.heap.size+1,2,none⟩ (.slice (some ⟨g,0,none⟩) (acc.length+1) cap)):
  SetY C w d ⟨k,nm,exsOf (acc++ [x]),.nil,.nil,.nil,a⟩ ⟨some ⟨g,0,none⟩,cap,none,0,none,0,none,0⟩ r2 w10:=by
 have hlt:=hx.row.lt
 have hsF:=hx.fr.size
 have hsf:=hf.size
 have hsw:=hwa.size
 have hsg:=hg.size
 have hcl:cs.length=acc.length*5:=hx.row.1
 have hgl:=hown.lt g rfl
 have hst:=hx.st.lt
 obtain⟨x1,x2,x3,Ax,cx,ex,hsx⟩:=hv
 simp only[exV,Value.agg.injEq,Array.mk.injEq,List.cons.injEq,Value.slice.injEq,true_and,and_true]at ex
 obtain⟨rfl,rfl⟩:=ex
 obtain⟨w8,hw8⟩:=nmq (((((w9.setCell ⟨g,acc.length*5,none⟩ (.int .u8 x.k)).setCell ⟨g,acc.length*5+1,none⟩ (.string x.nm)).setCell ⟨g,acc.length*5+2,none⟩ (.int .i64 x.n)).setCell ⟨g,acc.length*5+3,none⟩ (.slice A x.args.len c)).setCell ⟨g,acc.length*5+4,none⟩ (.int .i64 x.at_))
 rw[←hw8]at hw10
 have hz8:w8.heap.size=w9.heap.size:=by rw[hw8];simp
 have hz10:w10.heap.size=w9.heap.size:=by rw[hw10];simp[hz8]
 have hf98:Fr (fun b=>b=g) w9 w8:=by rw[hw8];exact Fr.own (Fr.own (Fr.own (Fr.own (Fr.own (Fr.refl _ _) _ _) _ _) _ _) _ _) _ _
 have hf80:Fr (fun b=>b=w.heap.size+1) w8 w10:=by rw[hw10];exact Fr.own (Fr.refl _ _) _ _
 have hrow8:w8.ownsRow (w.heap.size+2) 175 5 (.slice (some ⟨g,0,none⟩) (acc.length+1) cap) (acc.length+1) (cs++exC x A c):=by
  have h1:=row_put (row_put (row_put (row_put (row_put hown (acc.length*5) (.int .u8 x.k)) (acc.length*5+1) (.string x.nm)) (acc.length*5+2) (.int .i64 x.n)) (acc.length*5+3) (.slice A x.args.len c)) (acc.length*5+4) (.int .i64 x.at_)
  rw[←hw8]at h1
  have e:(((((cs++zeroEx.toList).set (acc.length*5) (.int .u8 x.k)).set (acc.length*5+1) (.string x.nm)).set (acc.length*5+2) (.int .i64 x.n)).set (acc.length*5+3) (.slice A x.args.len c)).set (acc.length*5+4) (.int .i64 x.at_)=cs++exC x A c:=by
   rw[←hcl]
   simp[List.set_append,zeroEx,exC]
  rw[e]at h1
  exact h1
 have hW9:Fr (fun b=>v.ownBlock=some b) W w9:=Fr.grown hg fun g e _=>e
 have h79:Fr (fun b=>v.ownBlock=some b) w7 w9:=hwa.any.trans hW9
 have h7x:Fr (fun b=>v.ownBlock=some b∨b=g∨b=w.heap.size+1) w7 w10:=((h79.mono fun i _ h=>Or.inl h).trans (hf98.mono fun i _ h=>Or.inr (Or.inl h))).trans (hf80.mono fun i _ h=>Or.inr (Or.inr h))
 have hrx:Fr (fun b=>b=C.P∨v.ownBlock=some b∨b=g∨b=w.heap.size+1) wr w10:=(hf.mono fun i _ h=>Or.inl h).trans (h7x.mono fun i _ h=>Or.inr h)
 have hgn:∀b,b < w7.heap.size→v.ownBlock≠some b→b≠g:=fun b hb hn e=>by
  subst e
  rcases hsp with h|h
  ·exact hn h
  ·omega
 have hrow10:=ownsRow_setCell_below hrow8 (a:=⟨w.heap.size+1,2,none⟩) (by show w.heap.size+1 < w.heap.size+2;omega) (.slice (some ⟨g,0,none⟩) (acc.length+1) cap)
 rw[←hw10]at hrow10
 have hnew:ExRow w10 (NewR (w.heap.size+2) (.slice (some ⟨g,0,none⟩) (acc.length+1) cap) w10) (acc++ [x]) (cs++exC x A c):=by
  refine ExRow.snoc ⟨x1,x2,x3,hsx.imp fun _ _ h=>ExR.more (T:=NewR (w.heap.size+2) (.slice (some ⟨g,0,none⟩) (acc.length+1) cap) w10) (fun b hb=>?_) (ExR.keep (h7x.same fun b hb=>⟨hb.2,fun e=>?_⟩) h)⟩ (ExRow.imp (hrx.same fun b hb=>⟨hb.2.1,fun e=>?_⟩) (fun b hb=>⟨hb.1,by have:=hb.2.1;omega,fun e=>?_⟩) hx.rows)
  ·refine⟨by have:=hb.1;omega,by have:=hb.2;omega,fun e=>?_⟩
   have h1:=hb.1
   have h2:=hb.2
   have e:g=b:=by simpa[Value.ownBlock]using e
   exact hgn b h2 (fun e=>by have:=(hlt _ e).2;omega) e.symm
  ·have h1:=hb.1
   have h2:=hb.2
   rcases e with e|e|e
   ·have:=(hlt _ e).2;omega
   ·exact hgn b h2 (fun e=>by have:=(hlt _ e).2;omega) e
   ·omega
  ·have h1:=hb.1
   have h2:=hb.2.1
   have h3:=hb.2.2
   rcases e with e|e|e|e
   ·omega
   ·exact h3 e
   ·exact hgn b (by omega) h3 e
   ·omega
  ·have h2:=hb.2.1
   have e:g=b:=by simpa[Value.ownBlock]using e
   exact hgn b (by omega) hb.2.2 e.symm
 have hlen:(exsOf (acc++ [x])).len =acc.length+1:=by rw[exsOf_len];simp
 obtain⟨A',c',he,hsl⟩:=someX_end (S:=NewR (w.heap.size+2) (.slice (some ⟨g,0,none⟩) (acc.length+1) cap) w10) (by simpa using hrow10) hnew (fun b hb=>⟨hb.1,hb.2.1⟩) (by have:=hx.few;simp;omega)
 rw[hlen]at he hsl
 simp only[Value.slice.injEq,true_and]at he
 obtain⟨rfl,rfl⟩:=he
 refine⟨hp.fr h7x (fun e=>?_) (fun e=>?_) (fun i hi e=>?_),?_,?_,⟨hk8,ha,?_,⟨lrq 0,sl0,fun h=>absurd h (Nat.lt_irrefl 0)⟩,⟨lrq 0,⟨(by decide:(0:Nat)≤9223372036854775807),by exact Nat.zero_le _⟩,fun h=>absurd h (Nat.lt_irrefl 0)⟩,⟨lrq 0,⟨(by decide:(0:Nat)≤9223372036854775807),by exact Nat.zero_le _⟩,fun h=>absurd h (Nat.lt_irrefl 0)⟩⟩,?_⟩
 ·rcases e with e|e|e
  ·have:=(hlt _ e).1;omega
  ·omega
  ·omega
 ·rcases e with e|e|e
  ·have:=(hlt _ e).1;omega
  ·omega
  ·omega
 ·rcases e with e|e|e
  ·have:=(hlt _ e).1;omega
  ·omega
  ·omega
 ·have h1:Bk w8 (w.heap.size+1) 51 #[.int .u8 k,.string nm,v,.slice none 0 0,.slice none 0 0,.slice none 0 0,.int .i64 a]:=((hx.st.fr hf (fun e=>by have e:w.heap.size+1=C.P:=e;omega)).fr h79 (fun e=>by have:=(hlt _ e).1;omega)).fr hf98 fun e=>by have e:w.heap.size+1=g:=e;omega
  rw[hw10]
  have:=h1.set_ 2 (.slice (some ⟨g,0,none⟩) (acc.length+1) cap)
  simpa[stC,hlen,Cds.len,Sts.len]using this
 ·exact hx.res.fr hrx fun e=>by
   rcases e with e|e|e|e
   ·omega
   ·have:=(hlt _ e).1;omega
   ·omega
   ·omega
 ·show SlR _ (exsOf (acc++ [x])).len 64 _ _
  rw[hlen]
  exact hsl.imp fun _ _ h=>ExR.more (fun b hb=>⟨hb.1,hb.2,by have:=hb.1;omega⟩) h
 ·refine((hx.fr.mono (T':=fun b=>b=C.P∨v.ownBlock=some b∨b=g∨b=w.heap.size+1) fun i _ h=>?_).trans hrx).mono fun i hi e=>?_
  ·rcases h with h|h
   ·exact .inl h
   ·exact .inr (.inr (.inr h))
  ·rcases e with e|e|e|e
   ·exact .inl e
   ·have:=(hlt _ e).1;omega
   ·omega
   ·exact .inr e
theorem setCell_comm {w:World} {p q:Addr} (h:p.block≠q.block) (u v:Value):(w.setCell p u).setCell q v=(w.setCell q v).setCell p u:=by
 unfold World.setCell
 congr 1
 apply Array.ext_getElem?
 intro i
 simp only[Array.getElem?_modify]
 by_cases h1:p.block=i<;>by_cases h2:q.block=i
 ·exact absurd (h1.trans h2.symm) h
 ·simp[h1,h2]
 ·simp[h1,h2]
 ·simp[h1,h2]
theorem SetX.stepN {C:Pcx} {w wr w7 w9:World} {d:Nat} {k a:Int} {nm:ByteArray} {v:Value} {acc:List Ex} {cs:List Value} {r r2:List Tk} {x:Ex} {A:Option Addr} {c g cap:Nat} {o0 o1 o2 o3 o4 m:Nat} (ho:o0=acc.length*5∧o1=acc.length*5+1∧o2=acc.length*5+2∧o3=acc.length*5+3∧o4=acc.length*5+4∧m=acc.length+1)
  (hL:C.P < w.heap.size∧C.TB < w.heap.size∧C.W0.heap.size≤w.heap.size) (hk8:in8 k) (ha:in64 a)
  (hx:SetX C w d k nm a v acc cs r wr) (hv:ExV w7 wr.heap.size (exV x.k x.nm x.n A x.args.len c x.at_) x) (hp:PaAt C w7 r2 d) (hf:Fr C.T wr w7) (W:World) (hwa:Fr NoT w7 W)
  (hown:w9.ownsRow (w.heap.size+2) 175 5 (.slice (some ⟨g,0,none⟩) (acc.length+1) cap) (acc.length+1) (cs++zeroEx.toList))
  (hg:W.grownBy w9 v.ownBlock) (hsp:v.ownBlock=some g∨g=W.heap.size) (w10:World)
  (hw10:w10=(((((w9.setCell ⟨g,o0,none⟩ (.int .u8 x.k)).setCell ⟨g,o1,none⟩ (.string x.nm)).setCell ⟨g,o2,none⟩ (.int .i64 x.n)).setCell ⟨g,o3,none⟩ (.slice A x.args.len c)).setCell ⟨g,o4,none⟩ (.int .i64 x.at_)).setCell ⟨w.heap.size+1,2,none⟩ (.slice (some ⟨g,0,none⟩) m cap)∨
   w10=(((((w9.setCell ⟨w.heap.size+1,2,none⟩ (.slice (some ⟨g,0,none⟩) m cap)).setCell ⟨g,o0,none⟩ (.int .u8 x.k)).setCell ⟨g,o1,none⟩ (.string x.nm)).setCell ⟨g,o2,none⟩ (.int .i64 x.n)).setCell ⟨g,o3,none⟩ (.slice A x.args.len c)).setCell ⟨g,o4,none⟩ (.int .i64 x.at_)):
  SetY C w d ⟨k,nm,exsOf (acc++ [x]),.nil,.nil,.nil,a⟩ ⟨some ⟨g,0,none⟩,cap,none,0,none,0,none,0⟩ r2 w10:=by
 obtain⟨rfl,rfl,rfl,rfl,rfl,rfl⟩:=ho
 have hgl:=hown.lt g rfl
 refine SetX.step hL hk8 ha hx hv hp hf W hwa hown hg hsp w10 ?_
 rcases hw10 with h|h
 ·exact h
 ·have hne:∀j,(⟨w.heap.size+1,2,none⟩:Addr).block ≠(⟨g,j,none⟩:Addr).block :=fun j e=>by
   have e:w.heap.size+1=g:=e
   omega
  rw[h,setCell_comm (hne _),setCell_comm (hne _),setCell_comm (hne _),setCell_comm (hne _),setCell_comm (hne _)]

theorem stmt_set (C:Pcx) (n:Nat) (l:List Tk) (d:Nat) (w:World) (k:Int) (hkk:k=keyK (hdT l).text) (hk0:k=0) (hdn:d+n=24) (hk:C.Ok) (h:PaAt C w l d):
  Calls Tryz.prog 206 #[.pointer (some ⟨C.P,0,none⟩)] w (EndV C d StVal (stmtOf (blockP n) n l) w):=by
 obtain⟨i0,hi,hz0,hz1,hz2⟩:=info_parts infoEx
 have HI:=hdq (aiq hi (aiq hz0 (aiq hz1 hz2)))
 clear hi hz0 hz1 hz2
 obtain⟨R,hR⟩:=nmq (stmtOf (blockP n) n l)
 rw[←hR]
 rw[stmtOf_set (by rw[←hkk];exact hk0)]at hR
 have hL:=h.lts
 obtain⟨j,cap,m,hm0,hm1,hl,hmc,hcm,hb,p0,p1,f0,f1,t0,t1,t2,ltP,ltT⟩:=h.cells
 have hm2:m≤9223372036854775807:=by omega
 have hm3:(0:Int) < (m:Int):=by omega
 have htl:(hdT l).text.length ≤4096:=by
  have hd:=drop_head hl h.ne
  exact hk.len _ (List.mem_of_getElem? hd.1)
 obtain⟨a,ha⟩:∃a:Int,a=((hdT l).at_ :Int):=⟨_,rfl⟩
 obtain⟨tx,htx⟩:=nmq (txt (hdT l))
 have h64:in64 a:=by rw[ha];exact in64_at hk h
 rw[←ha]at t2
 rw[←htx]at t1
 rw[←ha]at hR
 have HR:=hdq hR
 have HA:=hdq ha
 have H64:=hdq h64
 obtain⟨w1,hw1⟩:=nmq ((w.alloc (.cells zeroSt 51)).alloc (.cells #[.int .u8 0,.string ⟨#[]⟩,.slice none 0 0,.slice none 0 0,.slice none 0 0,.slice none 0 0,.int .i64 a] 51))
 obtain⟨hb1,hb2,hf1⟩:=stmt_boxes w w1 a hw1
 have hz:w1.heap.size=w.heap.size+2:=by rw[hw1];simp
 have e1:(!(k==0))=false:=by simpa using hk0
 have hlk:∀(W:World) (b:Nat),KwM W b 7 kwTab→(Instr.lookup 326 (.map (some b)) (.string tx) true).run Tryz.prog W= .ok (.tuple #[.agg #[.int .u8 0,.nilFunc],.bool false]) W:=fun W b hW=>by
  have:=look_any (w:=w) hkk htx htl hW
  rw[if_pos hk0,e1]at this
  exact this
 have p10:=(hf1.cell (p:=⟨C.P,0,none⟩) ltP id).trans p0
 have t11:=(hf1.cell (p:=⟨C.TB,j*3+1,none⟩) ltT id).trans t1
 have hP1:C.P < w1.heap.size:=by omega
 have hT1:C.TB < w1.heap.size:=by omega
 have HLK:=hdq hlk
 have HKK:=hdq hkk
 have HK0:=hdq hk0
 have HDN:=hdq hdn
 have HRA:=hdq (fun(wk w9:World) (u0 u1:Value) (hfk:Fr NoT w1 wk) h9=>stmR_a (C:=C) (u0:=u0) (u1:=u1) (w9:=w9) hL h64 h hb1 hb2 hz hf1 hfk h9)
 have HRB:=hdq (fun(wa wk w9:World) (z0 z1 u0 u1:Value) (hfa:Fr NoT w1 wa) hba (hfk:Fr NoT wa wk) h9=>stmR_b (C:=C) (u0:=u0) (u1:=u1) (z0:=z0) (z1:=z1) (w9:=w9) hL h64 h hb1 hb2 hz hf1 hfa hba hfk h9)
 have HW1:=hdq hw1
 have HZ:=hdq hz
 have HK:=hdq hk
 have HL:=hdq hL
 have HF1:=hdq hf1
 clear hR hb hm0 hl ha htx hkk hk0 e1 hlk hw1 hb1 hb2 hz hf1 h hk hL htl h64
 go_enter Tryz.func206,Tryz.ntmps206
 go_wp2_with fail
 rw[show(w.alloc (.cells #[.int .u8 0,.string ⟨#[]⟩,.slice none 0 0,.slice none 0 0,.slice none 0 0,.slice none 0 0,.int .i64 0] 51)).alloc (.cells #[.int .u8 0,.string ⟨#[]⟩,.slice none 0 0,.slice none 0 0,.slice none 0 0,.slice none 0 0,.int .i64 a] 51)=w1 from HW1.out.symm]
 clear p0 t1 t2 p1 f0 f1 t0
 go_cut [4,5] (fun s4 s5 wx=>s5= .bool false∧∃gb,s4= .pointer (some ⟨gb,0,none⟩)∧Hid (StmR C w w.heap.size (w.heap.size+1) gb l d ⟨0,noB,.nil,.nil,.nil,.nil,a⟩ (.int .u8 0) .nilFunc wx∧w.heap.size+2≤gb))
 case first=>
  go_region_held2 (fun W'=>W'.cell? ⟨C.P,0,none⟩=some (.slice (some ⟨C.TB,j*3,none⟩) m cap)∧W'.cell? ⟨C.TB,j*3+1,none⟩=some (.string tx))
   (first
    |(refine⟨?_,?_⟩<;>with_reducible assumption)
    |(refine⟨(Fr.cell (T:=fun b=>b=gb) (w:=wk) ?_ hPk hPg).trans hpk,(Fr.cell (T:=fun b=>b=gb) (w:=wk) ?_ hTk hTg).trans htk⟩
      all_goals(subst hgb;repeat(first|exact Fr.refl _ _|refine Fr.alloc ?_ _|refine Fr.own ?_ _ _)))
    |(refine⟨(Fr.cell (T:=NoT) (w:=w1) ?_ hP1 id).trans p10,(Fr.cell (T:=NoT) (w:=w1) ?_ hT1 id).trans t11⟩
      all_goals(repeat(first|exact Fr.refl _ _|refine Fr.alloc ?_ _|refine Fr.drew ?_))))
   (first
    |(go_at_call 245
      refine(keywords_any w1.drew).mono ?_
      rintro _ wk ⟨kb,rfl,hkb,hkm,hfk⟩
      have hl1:=HLK.out _ _ hkm
      have hl2:=HLK.out _ _ (hkm.kept (World.grownBy_alloc wk (.cells #[.int .u8 0,.nilFunc] 324) none) (by simp))
      have hfk1:Fr NoT w1 wk:=(Fr.drew (Fr.refl _ _)).trans hfk
      have hpk:=(hfk1.cell (p:=⟨C.P,0,none⟩) hP1 id).trans p10
      have htk:=(hfk1.cell (p:=⟨C.TB,j*3+1,none⟩) hT1 id).trans t11
      have hPk:=ltq hP1 hfk1.size
      have hTk:=ltq hT1 hfk1.size
      obtain⟨gb,hgb⟩:=nmq wk.heap.size
      have hPg:¬C.P=gb:=by omega
      have hTg:¬C.TB=gb:=by omega
      have HE:=hdq (fun w9 h9=>HRA.out wk w9 (.int .u8 0) .nilFunc hfk1 h9)
      clear hkm hfk)
    |(go_at_call 245
      refine(keywords_any (w1.alloc (.cells #[.int .u8 0,.nilFunc] 324)).drew).mono ?_
      rintro _ wk ⟨kb,rfl,hkb,hkm,hfk⟩
      have hl1:=HLK.out _ _ hkm
      have hfa:Fr NoT w1 (w1.alloc (.cells #[.int .u8 0,.nilFunc] 324)).drew :=Fr.drew ((Fr.refl _ _).alloc _)
      have hba:Bk (w1.alloc (.cells #[.int .u8 0,.nilFunc] 324)).drew w1.heap.size 324 #[.int .u8 0,.nilFunc]:=Bk.new _ _ _
      have hfk1:Fr NoT w1 wk:=hfa.trans hfk
      have hpk:=(hfk1.cell (p:=⟨C.P,0,none⟩) hP1 id).trans p10
      have htk:=(hfk1.cell (p:=⟨C.TB,j*3+1,none⟩) hT1 id).trans t11
      have hPk:=ltq hP1 hfk1.size
      have hTk:=ltq hT1 hfk1.size
      obtain⟨gb,hgb⟩:=nmq w1.heap.size
      have hPg:¬C.P=gb:=by omega
      have hTg:¬C.TB=gb:=by omega
      have hbk:=hba.fr0 hfk
      have q0:=hbk.cell 0
      have q1:=hbk.cell 1
      have g0:=hbk.frozen 0
      have g1:=hbk.frozen 1
      have hgl:=hbk.lt
      simp only[getsL]at q0 q1
      have HE:=hdq (fun w9 h9=>HRB.out _ wk w9 (.int .u8 0) .nilFunc (.int .u8 0) .nilFunc hfa hba hfk h9)
      clear hkm hfk hba hfa hbk))
  all_goals
   have hgs:w.heap.size+2≤gb:=by rw[hgb];have:=hfk1.size;have:=HZ.out;omega
   rw[hgb]at hgs
   have HGS:=hdq hgs
   clear hgs
   go_wp2_with fail
   go_meet
   exact⟨rfl,_,rfl,hdq ⟨HE.out _ rfl,HGS.out⟩⟩
 case rest=>
  obtain⟨rfl,gb,rfl,HS1⟩:=hcut
  have HN:=hdq (pname_any C l d _ HK.out HS1.out.1.pa)
  have HS:=hdq HS1.out.1
  have HGS:=hdq HS1.out.2
  clear HS1
  go_wp2_with fail
  refine HN.out.mono ?_
  intro e w10 hE
  rcases hE.ways with⟨v,r,hx,rfl,hok,hp,hf⟩|⟨c,a2,hx,rfl,hf⟩
  rotate_left
  ·go_wp2_with fail
   exact⟨rfl,by rw[HR.out,hx];exact stmt_bad (PT.l (HS.out.fr.any.trans hf))⟩
  have hR2:=HR.out
  rw[hx]at hR2
  replace hR2:R=setO n v.nm a r:=hR2
  obtain⟨nm,hnm⟩:=nmq v.nm
  rw[←hnm]at hR2 ⊢
  have HR2:=hdq hR2
  have hL:=HL.out
  have hb10:=HS.out.raw.fr hf (fun e=>by have e:w.heap.size+1=C.P:=e;omega)
  have hr10:=HS.out.res.fr hf (fun e=>by have e:w.heap.size=C.P:=e;omega)
  have s0:=hb10.cell 0
  have s1:=hb10.cell 1
  have z0:=hb10.frozen 0
  have z1:=hb10.frozen 1
  simp only[getsL]at s0 s1
  have HSX:=hdq (fun w11 h11=>SetX.start (w11:=w11) (nm:=nm) HL.out hb10 hr10 hp (HS.out.fr.any.trans hf) h11)
  have hs2:w.heap.size+2≤w10.heap.size:=by have h1:=HS.out.beg.lt;have h2:=hf.size;have h3:=HGS.out;omega
  have HS2:=hdq hs2
  clear hx hok hp hf hR2 hL hb10 hr10 hs2 hnm
  obtain⟨w11,hw11⟩:=nmq ((w10.setCell ⟨w.heap.size+1,0,none⟩ (.int .u8 2)).setCell ⟨w.heap.size+1,1,none⟩ (.string nm))
  have hx11:=HSX.out w11 hw11
  have hz11:w11.heap.size=w10.heap.size:=by rw[hw11];simp
  cases hm:mayB [91] r
  ·have hi:=is1_no C [91] r d w11.heap.size _ (hx11.pa.alloc (.cells #[.string ⟨#[91]⟩] 9)) hm (by simp)
   unfold pP at hi
   have hsx:=hx11.alloc HL.out (.cells #[.string ⟨#[91]⟩] 9)
   obtain⟨WT,hwt⟩:=nmq (w11.alloc (.cells #[.string ⟨#[91]⟩] 9))
   rw[←hwt]at hsx
   have hszw:WT.heap.size=w10.heap.size+1:=by rw[hwt];simp[hz11]
   have HZW:=hdq (show w10.heap.size≤WT.heap.size by omega)
   rw[hz11,hw11]at hi
   rw[hw11]at hwt
   have HI2:=hdq hi
   have HR3:=hdq (show R=setE n 2 nm a [] r from by rw[HR2.out,setO,hm];rfl)
   have HSX2:=hdq hsx
   have HWT0:=hdq hwt
   have HSZ:=hdq hszw
   clear hw11 hx11 hz11 hi hm hsx hwt hszw
   go_wp2_with fail
   refine HI2.out.mono ?_
   rintro _ w12 ⟨q,hq,rfl,rfl⟩
   have hsx:=HSX2.out
   have hwt:=HWT0.out
   have hzt:=HSZ.out
   have ht:=take_any C [61] r d WT.heap.size _ HK.out (hsx.pa.alloc (.cells #[.string ⟨#[61]⟩] 9)) (by decide) (by simp)
   have HSX:=hdq (hsx.alloc HL.out (.cells #[.string ⟨#[61]⟩] 9))
   rw[hzt,hwt]at ht
   have HWT:=hdq hwt
   have HT:=hdq ht
   clear hsx ht hzt hwt
   go_wp2_with fail
   refine HT.out.mono ?_
   intro e w4 hE
   rw[←HWT.out]at hE
   rcases hE with⟨ht,rfl,hp,hf⟩|⟨ht,rfl,hf⟩
   rotate_left
   ·go_wp2_with fail
    exact⟨rfl,by rw[HR3.out,setE,ht];exact stmt_bad (HSX.out.fr.trans (PT.l hf))⟩
   have hR4:=HR3.out
   rw[setE,ht]at hR4
   replace hR4:R=(exprP n r.tail).then fun e r=>endS ⟨2,nm,exsOf (([]:List Ex)++ [e]),.nil,.nil,.nil,a⟩ r:=hR4
   have HR4:=hdq hR4
   have hx4:=HSX.out.next HL.out hf hp
   have HXE:=hdq (fun W (hW:Fr NoT w4 W)=>pexpr_any C n r.tail d W HDN.out HK.out (hx4.pa.fr hW id id fun _ _=>id))
   have hsz4:w.heap.size+2≤w4.heap.size:=leq9 HS2.out (leq9 (by rw[World.size_alloc];exact leq9 HZW.out (Nat.le_succ _)) hf.size)
   have hsb4:w.heap.size+1 < w4.heap.size:=by omega
   have s2:=hx4.st.cell 2
   have z2:=hx4.st.frozen 2
   simp only[getsL]at s2
   have HX4:=hdq hx4
   clear ht hp hf hR4 hx4
   go_wp2_with fail
   go_cut [60] (fun s60 wx=>∃(xs:St) (pl:Loc) (r3:List Tk),Hid (R=endS xs r3∧SetY C w d xs pl r3 wx))
   case first=>
    go_region_law
     (first
      |(refine at_value _ _ _ (by rfl) ?_
        go_simp
        go_at_call 247
        with_reducible refine(HXE.out w4.drew (Fr.drew (Fr.refl _ _))).mono ?_
        intro e w7 hE
        rcases hE.ways with⟨x,r3,A,c,hX,rfl,hv,hp,hf⟩|⟨c,a2,hX,rfl,hf⟩
        case inr=>exact⟨rfl,by rw[HR4.out,hX];exact stmt_bad (HX4.out.fr.trans (PT.l ((Fr.drew (Fr.refl C.T w4)).trans hf)))⟩
        have hf7:Fr C.T w4 w7:=(Fr.drew (Fr.refl C.T w4)).trans hf
        have hx7:=HX4.out.next HL.out hf7 hp
        have s2':=hx7.st.cell 2
        have z2':=hx7.st.frozen 2
        have hsz7:=hf7.size
        have hsb7:w.heap.size+1 < w7.heap.size:=by omega
        simp only[getsL]at s2'
        have HX:=hdq hX
        have HV:=hdq hv
        have HP:=hdq hp
        have HF7:=hdq hf7
        have HX7:=hdq (hx7.alloc HL.out (.cells #[.int .u8 0,.string ⟨#[]⟩,.int .i64 0,.slice none 0 0,.int .i64 0] 175))
        have HNB:=hdq (Bk.new w7 175 zeroEx).news
        have HW:=hdq (show Fr NoT w7 (w7.alloc (.cells #[.int .u8 0,.string ⟨#[]⟩,.int .i64 0,.slice none 0 0,.int .i64 0] 175))from(Fr.refl _ _).alloc _)
        have hwx:=hx7.row.lt
        clear hX hv hp hf hf7 hx7
        dsimp only)
      |(refine at_value _ _ _ (by rfl) ?_
        go_simp
        go_at_call 247
        with_reducible refine(HXE.out (w4.alloc (.cells #[.int .u8 0,.string ⟨#[]⟩,.int .i64 0,.slice none 0 0,.int .i64 0] 175)).drew (Fr.drew ((Fr.refl _ _).alloc _))).mono ?_
        intro e w7 hE
        rcases hE.ways with⟨x,r3,A,c,hX,rfl,hv,hp,hf⟩|⟨c,a2,hX,rfl,hf⟩
        case inr=>exact⟨rfl,by rw[HR4.out,hX];exact stmt_bad (HX4.out.fr.trans (PT.l ((Fr.drew ((Fr.refl C.T w4).alloc _)).trans hf)))⟩
        have hf0:Fr C.T w4 (w4.alloc (.cells zeroEx 175)).drew :=Fr.drew ((Fr.refl C.T w4).alloc _)
        have hf7:Fr C.T w4 w7:=hf0.trans hf
        have hx7:=HX4.out.next HL.out hf7 hp
        have s2':=hx7.st.cell 2
        have z2':=hx7.st.frozen 2
        have hsz7:=hf7.size
        have hsb7:w.heap.size+1 < w7.heap.size:=by omega
        simp only[getsL]at s2'
        have HX:=hdq hX
        have HV:=hdq (hv.low (L':=w4.heap.size) hf0.size)
        have HP:=hdq hp
        have HF7:=hdq hf7
        have HX7:=hdq hx7
        have HNB:=hdq (((show Bk (w4.alloc (.cells zeroEx 175)).drew w4.heap.size 175 zeroEx from Bk.new _ _ _).fr hf (fun e=>by have e:w4.heap.size=C.P:=e;have:=HL.out.1;omega))).news
        have HW:=hdq (Fr.refl NoT w7)
        have hwx:=hx7.row.lt
        clear hX hv hp hf hf7 hx7 hf0
        dsimp only)
      |(refine step_append_lies _ (by rfl) _ _ _ (by rfl) (w.heap.size+2) 175 i0 (.agg zeroEx) 5 64 Tryz.underlying48 HI.out.1 HI.out.2.1 HI.out.2.2.1 HI.out.2.2.2 rfl (by decide) (.slice none 0 0) 0 [] (by rfl) HX7.out.row ⟨w7.heap.size,0,none⟩ 1 1 zeroEx.toList (by rfl) (by rfl) HNB.out (by simp[zeroEx,Value.oneCell']) (by omega) (by decide) (by decide) (by rw[World.size_alloc];omega) (w7.heap.size+1) (World.size_alloc _ _) ?_
        intro gg cap w9 hown hgrow hsp hlt
        have hgg:=hown.lt gg rfl
        obtain⟨c0,c1,c2,c3,c4,cf⟩:=row_zero5 (n:=0) hown (by rfl)
        simp only[Nat.zero_mul,Nat.one_mul,Nat.zero_add,Nat.reduceAdd,Nat.reduceMul]at c0 c1 c2 c3 c4
        have cf0:=cf 0
        have cf1:=cf 1
        have cf2:=cf 2
        have cf3:=cf 3
        have cf4:=cf 4
        have hsb9:w9.cell? ⟨w.heap.size+1,2,none⟩=some (.slice none 0 0):=(hgrow.cell_far ⟨w.heap.size+1,2,none⟩ (by show w.heap.size+1 < _;rw[World.size_alloc];omega) (by simp[Value.ownBlock])).trans (HX7.out.st.cell 2)
        have hsf9:w9.frozen? ⟨w.heap.size+1,2,none⟩=false:=(hgrow.frozen_far ⟨w.heap.size+1,2,none⟩ (by show w.heap.size+1 < _;rw[World.size_alloc];omega) (by simp[Value.ownBlock])).trans (HX7.out.st.frozen 2)
        have hne1:¬w.heap.size+1=gg:=by omega
        have hne2:¬gg=w.heap.size+1:=by omega
        have HE:=hdq (fun w10 h10=>SetX.stepN (w10:=w10) (o0:=0) (o1:=1) (o2:=2) (o3:=3) (o4:=4) (m:=1) ⟨rfl,rfl,rfl,rfl,rfl,rfl⟩ HL.out (by unfold in8;omega) H64.out HX4.out HV.out HP.out HF7.out _ HW.out hown hgrow (hsp.imp id fun e=>by rw[World.size_alloc];exact e) h10)
        clear hown cf hgrow hsp)
      |(refine step_append_lies _ (by rfl) _ _ _ (by rfl) (w.heap.size+2) 175 i0 (.agg zeroEx) 5 64 Tryz.underlying48 HI.out.1 HI.out.2.1 HI.out.2.2.1 HI.out.2.2.2 rfl (by decide) (.slice none 0 0) 0 [] (by rfl) HX7.out.row ⟨w4.heap.size,0,none⟩ 1 1 zeroEx.toList (by rfl) (by rfl) HNB.out (by simp[zeroEx,Value.oneCell']) (by omega) (by decide) (by decide) (by omega) w7.heap.size rfl ?_
        intro gg cap w9 hown hgrow hsp hlt
        have hgg:=hown.lt gg rfl
        obtain⟨c0,c1,c2,c3,c4,cf⟩:=row_zero5 (n:=0) hown (by rfl)
        simp only[Nat.zero_mul,Nat.one_mul,Nat.zero_add,Nat.reduceAdd,Nat.reduceMul]at c0 c1 c2 c3 c4
        have cf0:=cf 0
        have cf1:=cf 1
        have cf2:=cf 2
        have cf3:=cf 3
        have cf4:=cf 4
        have hsb9:w9.cell? ⟨w.heap.size+1,2,none⟩=some (.slice none 0 0):=(hgrow.cell_far ⟨w.heap.size+1,2,none⟩ (by show w.heap.size+1 < _;omega) (by simp[Value.ownBlock])).trans (HX7.out.st.cell 2)
        have hsf9:w9.frozen? ⟨w.heap.size+1,2,none⟩=false:=(hgrow.frozen_far ⟨w.heap.size+1,2,none⟩ (by show w.heap.size+1 < _;omega) (by simp[Value.ownBlock])).trans (HX7.out.st.frozen 2)
        have hne1:¬w.heap.size+1=gg:=by omega
        have hne2:¬gg=w.heap.size+1:=by omega
        have HE:=hdq (fun w10 h10=>SetX.stepN (w10:=w10) (o0:=0) (o1:=1) (o2:=2) (o3:=3) (o4:=4) (m:=1) ⟨rfl,rfl,rfl,rfl,rfl,rfl⟩ HL.out (by unfold in8;omega) H64.out HX4.out HV.out HP.out HF7.out _ HW.out hown hgrow hsp h10)
        clear hown cf hgrow hsp))
    all_goals
     have hR5:=HR4.out
     rw[HX.out]at hR5
     replace hR5:R=endS ⟨2,nm,exsOf (([]:List Ex)++ [x]),.nil,.nil,.nil,a⟩ r3:=hR5
     have HR5:=hdq hR5
     clear hR5
     go_wp2_with fail
     go_meet
     first
      |exact⟨_,_,_,hdq ⟨HR5.out,HE.out _ (.inl (by with_reducible rfl))⟩⟩
      |exact⟨_,_,_,hdq ⟨HR5.out,HE.out _ (.inr (by with_reducible rfl))⟩⟩
   case rest=>
    obtain⟨xs,pl,r3,HY1⟩:=hcut
    have HR5:=hdq HY1.out.1
    have HY:=hdq HY1.out.2
    have HT10:=hdq (take_any C [59] r3 d wc.heap.size _ HK.out (HY.out.pa.alloc (.cells #[.string ⟨#[59]⟩] 9)) (by decide) (by simp))
    have HYA:=hdq (show Fr C.T wc (wc.alloc (.cells #[.string ⟨#[59]⟩] 9))from(Fr.refl _ _).alloc _)
    clear HY1 s2 z2
    go_wp2_with fail
    refine HT10.out.mono ?_
    intro e w12 hE
    rcases hE with⟨ht,rfl,hp,hf⟩|⟨ht,rfl,hf⟩
    rotate_left
    ·go_wp2_with fail
     exact⟨rfl,by rw[HR5.out,endS,ht];exact stmt_bad (HY.out.fr.trans (PT.l (HYA.out.trans hf)))⟩
    have hy:=HY.out.next HL.out (HYA.out.trans hf) hp
    have hb:=hy.st
    have hrb:=hy.res
    have b0:=hb.cell 0
    have b1:=hb.cell 1
    have b2:=hb.cell 2
    have b3:=hb.cell 3
    have b4:=hb.cell 4
    have b5:=hb.cell 5
    have b6:=hb.cell 6
    have o0:=hrb.cell 0
    have o1:=hrb.cell 1
    have o2:=hrb.cell 2
    have o3:=hrb.cell 3
    have o4:=hrb.cell 4
    have o5:=hrb.cell 5
    have o6:=hrb.cell 6
    have y0:=hrb.frozen 0
    have y1:=hrb.frozen 1
    have y2:=hrb.frozen 2
    have y3:=hrb.frozen 3
    have y4:=hrb.frozen 4
    have y5:=hrb.frozen 5
    have y6:=hrb.frozen 6
    simp only[stC,zeroSt,List.getElem?_toArray,List.getElem?_cons_succ,List.getElem?_cons_zero]at b0 b1 b2 b3 b4 b5 b6 o0 o1 o2 o3 o4 o5 o6
    have hlt2:=hrb.lt
    have HYY:=hdq hy
    have HTT:=hdq ht
    clear hy hb hrb ht hp hf
    go_wp2_with fail
    refine bodyPost_ret (v:= .agg #[.int .u8 xs.k,.string xs.nm,.slice pl.A xs.args.len pl.c,.slice pl.B xs.cond.len pl.q,.slice pl.D xs.body.len pl.e,.slice pl.E xs.els.len pl.f,.int .i64 xs.at_]) (by simp[results,Tryz.results206,go_sem,o0,o1,o2,o3,o4,o5,o6,hlt2]) rfl ?_
    rw[HR5.out,endS,HTT.out]
    exact stmt_fin HL.out HYY.out.hs HYY.out.pa HYY.out.fr rfl
  ·have hi:=is1_yes C [91] r d w11.heap.size _ (hx11.pa.alloc (.cells #[.string ⟨#[91]⟩] 9)) hm (by simp)
   unfold pP at hi
   have hsx:=hx11.alloc HL.out (.cells #[.string ⟨#[91]⟩] 9)
   have hix:=pindex_any C n r d _ HDN.out HK.out hsx.pa
   have hszw:(w11.alloc (.cells #[.string ⟨#[91]⟩] 9)).heap.size =w10.heap.size+1:=by simp[hz11]
   rw[hz11,hw11]at hi
   rw[hw11]at hix
   have HI2:=hdq hi
   have HIX:=hdq hix
   have HR3:=hdq (show R=(indexP n r).then fun i r=>setE n 3 nm a [i] r from by rw[HR2.out,setO,hm];rfl)
   have HSX2:=hdq hsx
   have HW11:=hdq hw11
   have HSZ:=hdq hszw
   clear hw11 hx11 hz11 hi hm hsx hix hszw
   go_wp2_with fail
   refine HI2.out.mono ?_
   rintro _ w12 ⟨rfl,rfl⟩
   go_wp2_with fail
   refine HIX.out.mono ?_
   intro e w13 hE
   rw[←HW11.out]at hE
   rcases hE.ways with⟨i,r2,A0,q0,hI,rfl,hv,hp,hf⟩|⟨c,a2,hI,rfl,hf⟩
   rotate_left
   ·go_wp2_with fail
    exact⟨rfl,by rw[HR3.out,hI];exact stmt_bad (HSX2.out.fr.trans (PT.l hf))⟩
   have hR3:=HR3.out
   rw[hI]at hR3
   replace hR3:R=setE n 3 nm a [i] r2:=hR3
   have HR3:=hdq hR3
   have hx13:=HSX2.out.next HL.out hf hp
   have u0:=hx13.st.cell 0
   have u2:=hx13.st.cell 2
   have v0:=hx13.st.frozen 0
   have v2:=hx13.st.frozen 2
   simp only[getsL]at u0 u2
   obtain⟨WT,hwt⟩:=nmq (((w13.setCell ⟨w.heap.size+1,0,none⟩ (.int .u8 3)).setCell ⟨w.heap.size+1,2,none⟩ (.slice (some ⟨w13.heap.size,0,none⟩) 1 1)).alloc (.cells #[.int .u8 i.k,.string i.nm,.int .i64 i.n,.slice A0 i.args.len q0,.int .i64 i.at_] 175))
   have hsx:=SetX.index HL.out HSX2.out hf hp hv hwt
   have hszw:WT.heap.size=w13.heap.size+1:=by rw[hwt];simp
   have hs13:w10.heap.size+1≤w13.heap.size:=by have:=hf.size;have:=HSZ.out;omega
   have HZW:=hdq (show w10.heap.size≤WT.heap.size by omega)
   have HSZ:=hdq hszw
   have hsl13:w.heap.size+1 < w13.heap.size:=by have:=HS2.out;omega
   clear hI hv hp hf hR3 hx13 hszw
   have hzt:=HSZ.out
   have ht:=take_any C [61] r2 d WT.heap.size _ HK.out (hsx.pa.alloc (.cells #[.string ⟨#[61]⟩] 9)) (by decide) (by simp)
   have HSX:=hdq (hsx.alloc HL.out (.cells #[.string ⟨#[61]⟩] 9))
   rw[hzt,hwt]at ht
   have HWT:=hdq hwt
   have HT:=hdq ht
   clear hsx ht hzt hwt
   go_wp2_with fail
   refine HT.out.mono ?_
   intro e w4 hE
   rw[←HWT.out]at hE
   rcases hE with⟨ht,rfl,hp,hf⟩|⟨ht,rfl,hf⟩
   rotate_left
   ·go_wp2_with fail
    exact⟨rfl,by rw[HR3.out,setE,ht];exact stmt_bad (HSX.out.fr.trans (PT.l hf))⟩
   have hR4:=HR3.out
   rw[setE,ht]at hR4
   replace hR4:R=(exprP n r2.tail).then fun e r=>endS ⟨3,nm,exsOf ([i]++ [e]),.nil,.nil,.nil,a⟩ r:=hR4
   have HR4:=hdq hR4
   have hx4:=HSX.out.next HL.out hf hp
   have HXE:=hdq (fun W (hW:Fr NoT w4 W)=>pexpr_any C n r2.tail d W HDN.out HK.out (hx4.pa.fr hW id id fun _ _=>id))
   have hsz4:w.heap.size+2≤w4.heap.size:=leq9 HS2.out (leq9 (by rw[World.size_alloc];exact leq9 HZW.out (Nat.le_succ _)) hf.size)
   have hsb4:w.heap.size+1 < w4.heap.size:=by omega
   have s2:=hx4.st.cell 2
   have z2:=hx4.st.frozen 2
   simp only[getsL]at s2
   have HX4:=hdq hx4
   clear ht hp hf hR4 hx4
   go_wp2_with fail
   go_cut [60] (fun s60 wx=>∃(xs:St) (pl:Loc) (r3:List Tk),Hid (R=endS xs r3∧SetY C w d xs pl r3 wx))
   case first=>
    go_region_law
     (first
      |(refine at_value _ _ _ (by rfl) ?_
        go_simp
        go_at_call 247
        with_reducible refine(HXE.out w4.drew (Fr.drew (Fr.refl _ _))).mono ?_
        intro e w7 hE
        rcases hE.ways with⟨x,r3,A,c,hX,rfl,hv,hp,hf⟩|⟨c,a2,hX,rfl,hf⟩
        case inr=>exact⟨rfl,by rw[HR4.out,hX];exact stmt_bad (HX4.out.fr.trans (PT.l ((Fr.drew (Fr.refl C.T w4)).trans hf)))⟩
        have hf7:Fr C.T w4 w7:=(Fr.drew (Fr.refl C.T w4)).trans hf
        have hx7:=HX4.out.next HL.out hf7 hp
        have s2':=hx7.st.cell 2
        have z2':=hx7.st.frozen 2
        have hsz7:=hf7.size
        have hsb7:w.heap.size+1 < w7.heap.size:=by omega
        simp only[getsL]at s2'
        have HX:=hdq hX
        have HV:=hdq hv
        have HP:=hdq hp
        have HF7:=hdq hf7
        have HX7:=hdq (hx7.alloc HL.out (.cells #[.int .u8 0,.string ⟨#[]⟩,.int .i64 0,.slice none 0 0,.int .i64 0] 175))
        have HNB:=hdq (Bk.new w7 175 zeroEx).news
        have HW:=hdq (show Fr NoT w7 (w7.alloc (.cells #[.int .u8 0,.string ⟨#[]⟩,.int .i64 0,.slice none 0 0,.int .i64 0] 175))from(Fr.refl _ _).alloc _)
        have hwx:=hx7.row.lt
        clear hX hv hp hf hf7 hx7
        dsimp only)
      |(refine at_value _ _ _ (by rfl) ?_
        go_simp
        go_at_call 247
        with_reducible refine(HXE.out (w4.alloc (.cells #[.int .u8 0,.string ⟨#[]⟩,.int .i64 0,.slice none 0 0,.int .i64 0] 175)).drew (Fr.drew ((Fr.refl _ _).alloc _))).mono ?_
        intro e w7 hE
        rcases hE.ways with⟨x,r3,A,c,hX,rfl,hv,hp,hf⟩|⟨c,a2,hX,rfl,hf⟩
        case inr=>exact⟨rfl,by rw[HR4.out,hX];exact stmt_bad (HX4.out.fr.trans (PT.l ((Fr.drew ((Fr.refl C.T w4).alloc _)).trans hf)))⟩
        have hf0:Fr C.T w4 (w4.alloc (.cells zeroEx 175)).drew :=Fr.drew ((Fr.refl C.T w4).alloc _)
        have hf7:Fr C.T w4 w7:=hf0.trans hf
        have hx7:=HX4.out.next HL.out hf7 hp
        have s2':=hx7.st.cell 2
        have z2':=hx7.st.frozen 2
        have hsz7:=hf7.size
        have hsb7:w.heap.size+1 < w7.heap.size:=by omega
        simp only[getsL]at s2'
        have HX:=hdq hX
        have HV:=hdq (hv.low (L':=w4.heap.size) hf0.size)
        have HP:=hdq hp
        have HF7:=hdq hf7
        have HX7:=hdq hx7
        have HNB:=hdq (((show Bk (w4.alloc (.cells zeroEx 175)).drew w4.heap.size 175 zeroEx from Bk.new _ _ _).fr hf (fun e=>by have e:w4.heap.size=C.P:=e;have:=HL.out.1;omega))).news
        have HW:=hdq (Fr.refl NoT w7)
        have hwx:=hx7.row.lt
        clear hX hv hp hf hf7 hx7 hf0
        dsimp only)
      |(refine step_append_lies _ (by rfl) _ _ _ (by rfl) (w.heap.size+2) 175 i0 (.agg zeroEx) 5 64 Tryz.underlying48 HI.out.1 HI.out.2.1 HI.out.2.2.1 HI.out.2.2.2 rfl (by decide) (.slice (some ⟨w13.heap.size,0,none⟩) 1 1) 1 (exC i A0 q0) (by rfl) HX7.out.row ⟨w7.heap.size,0,none⟩ 1 1 zeroEx.toList (by rfl) (by rfl) HNB.out (by simp[zeroEx,Value.oneCell']) (by omega) (by decide) (by decide) (by rw[World.size_alloc];omega) (w7.heap.size+1) (World.size_alloc _ _) ?_
        intro gg cap w9 hown hgrow hsp hlt
        have hgg:=hown.lt gg rfl
        obtain⟨c0,c1,c2,c3,c4,cf⟩:=row_zero5 (n:=1) hown (by rfl)
        simp only[Nat.zero_mul,Nat.one_mul,Nat.zero_add,Nat.reduceAdd,Nat.reduceMul]at c0 c1 c2 c3 c4
        have cf0:=cf 5
        have cf1:=cf 6
        have cf2:=cf 7
        have cf3:=cf 8
        have cf4:=cf 9
        have hsb9:w9.cell? ⟨w.heap.size+1,2,none⟩=some (.slice (some ⟨w13.heap.size,0,none⟩) 1 1):=(hgrow.cell_far ⟨w.heap.size+1,2,none⟩ (by show w.heap.size+1 < _;rw[World.size_alloc];omega) (by simp[Value.ownBlock];omega)).trans (HX7.out.st.cell 2)
        have hsf9:w9.frozen? ⟨w.heap.size+1,2,none⟩=false:=(hgrow.frozen_far ⟨w.heap.size+1,2,none⟩ (by show w.heap.size+1 < _;rw[World.size_alloc];omega) (by simp[Value.ownBlock];omega)).trans (HX7.out.st.frozen 2)
        have hne1:¬w.heap.size+1=gg:=by omega
        have hne2:¬gg=w.heap.size+1:=by omega
        have HE:=hdq (fun w10 h10=>SetX.stepN (w10:=w10) (o0:=5) (o1:=6) (o2:=7) (o3:=8) (o4:=9) (m:=2) ⟨rfl,rfl,rfl,rfl,rfl,rfl⟩ HL.out (by unfold in8;omega) H64.out HX4.out HV.out HP.out HF7.out _ HW.out hown hgrow (hsp.imp id fun e=>by rw[World.size_alloc];exact e) h10)
        clear hown cf hgrow hsp)
      |(refine step_append_lies _ (by rfl) _ _ _ (by rfl) (w.heap.size+2) 175 i0 (.agg zeroEx) 5 64 Tryz.underlying48 HI.out.1 HI.out.2.1 HI.out.2.2.1 HI.out.2.2.2 rfl (by decide) (.slice (some ⟨w13.heap.size,0,none⟩) 1 1) 1 (exC i A0 q0) (by rfl) HX7.out.row ⟨w4.heap.size,0,none⟩ 1 1 zeroEx.toList (by rfl) (by rfl) HNB.out (by simp[zeroEx,Value.oneCell']) (by omega) (by decide) (by decide) (by omega) w7.heap.size rfl ?_
        intro gg cap w9 hown hgrow hsp hlt
        have hgg:=hown.lt gg rfl
        obtain⟨c0,c1,c2,c3,c4,cf⟩:=row_zero5 (n:=1) hown (by rfl)
        simp only[Nat.zero_mul,Nat.one_mul,Nat.zero_add,Nat.reduceAdd,Nat.reduceMul]at c0 c1 c2 c3 c4
        have cf0:=cf 5
        have cf1:=cf 6
        have cf2:=cf 7
        have cf3:=cf 8
        have cf4:=cf 9
        have hsb9:w9.cell? ⟨w.heap.size+1,2,none⟩=some (.slice (some ⟨w13.heap.size,0,none⟩) 1 1):=(hgrow.cell_far ⟨w.heap.size+1,2,none⟩ (by show w.heap.size+1 < _;omega) (by simp[Value.ownBlock];omega)).trans (HX7.out.st.cell 2)
        have hsf9:w9.frozen? ⟨w.heap.size+1,2,none⟩=false:=(hgrow.frozen_far ⟨w.heap.size+1,2,none⟩ (by show w.heap.size+1 < _;omega) (by simp[Value.ownBlock];omega)).trans (HX7.out.st.frozen 2)
        have hne1:¬w.heap.size+1=gg:=by omega
        have hne2:¬gg=w.heap.size+1:=by omega
        have HE:=hdq (fun w10 h10=>SetX.stepN (w10:=w10) (o0:=5) (o1:=6) (o2:=7) (o3:=8) (o4:=9) (m:=2) ⟨rfl,rfl,rfl,rfl,rfl,rfl⟩ HL.out (by unfold in8;omega) H64.out HX4.out HV.out HP.out HF7.out _ HW.out hown hgrow hsp h10)
        clear hown cf hgrow hsp))
    all_goals
     have hR5:=HR4.out
     rw[HX.out]at hR5
     replace hR5:R=endS ⟨3,nm,exsOf ([i]++ [x]),.nil,.nil,.nil,a⟩ r3:=hR5
     have HR5:=hdq hR5
     clear hR5
     go_wp2_with fail
     go_meet
     first
      |exact⟨_,_,_,hdq ⟨HR5.out,HE.out _ (.inl (by with_reducible rfl))⟩⟩
      |exact⟨_,_,_,hdq ⟨HR5.out,HE.out _ (.inr (by with_reducible rfl))⟩⟩
   case rest=>
    obtain⟨xs,pl,r3,HY1⟩:=hcut
    have HR5:=hdq HY1.out.1
    have HY:=hdq HY1.out.2
    have HT10:=hdq (take_any C [59] r3 d wc.heap.size _ HK.out (HY.out.pa.alloc (.cells #[.string ⟨#[59]⟩] 9)) (by decide) (by simp))
    have HYA:=hdq (show Fr C.T wc (wc.alloc (.cells #[.string ⟨#[59]⟩] 9))from(Fr.refl _ _).alloc _)
    clear HY1 s2 z2
    go_wp2_with fail
    refine HT10.out.mono ?_
    intro e w12 hE
    rcases hE with⟨ht,rfl,hp,hf⟩|⟨ht,rfl,hf⟩
    rotate_left
    ·go_wp2_with fail
     exact⟨rfl,by rw[HR5.out,endS,ht];exact stmt_bad (HY.out.fr.trans (PT.l (HYA.out.trans hf)))⟩
    have hy:=HY.out.next HL.out (HYA.out.trans hf) hp
    have hb:=hy.st
    have hrb:=hy.res
    have b0:=hb.cell 0
    have b1:=hb.cell 1
    have b2:=hb.cell 2
    have b3:=hb.cell 3
    have b4:=hb.cell 4
    have b5:=hb.cell 5
    have b6:=hb.cell 6
    have o0:=hrb.cell 0
    have o1:=hrb.cell 1
    have o2:=hrb.cell 2
    have o3:=hrb.cell 3
    have o4:=hrb.cell 4
    have o5:=hrb.cell 5
    have o6:=hrb.cell 6
    have y0:=hrb.frozen 0
    have y1:=hrb.frozen 1
    have y2:=hrb.frozen 2
    have y3:=hrb.frozen 3
    have y4:=hrb.frozen 4
    have y5:=hrb.frozen 5
    have y6:=hrb.frozen 6
    simp only[stC,zeroSt,List.getElem?_toArray,List.getElem?_cons_succ,List.getElem?_cons_zero]at b0 b1 b2 b3 b4 b5 b6 o0 o1 o2 o3 o4 o5 o6
    have hlt2:=hrb.lt
    have HYY:=hdq hy
    have HTT:=hdq ht
    clear hy hb hrb ht hp hf
    go_wp2_with fail
    refine bodyPost_ret (v:= .agg #[.int .u8 xs.k,.string xs.nm,.slice pl.A xs.args.len pl.c,.slice pl.B xs.cond.len pl.q,.slice pl.D xs.body.len pl.e,.slice pl.E xs.els.len pl.f,.int .i64 xs.at_]) (by simp[results,Tryz.results206,go_sem,o0,o1,o2,o3,o4,o5,o6,hlt2]) rfl ?_
    rw[HR5.out,endS,HTT.out]
    exact stmt_fin HL.out HYY.out.hs HYY.out.pa HYY.out.fr rfl

theorem stmt_any (C:Pcx) (n:Nat) (hbk:BlkC C n) (l:List Tk) (d:Nat) (w:World) (hdn:d+n=24) (hk:C.Ok) (h:PaAt C w l d):
  Calls Tryz.prog 206 #[.pointer (some ⟨C.P,0,none⟩)] w (EndV C d StVal (stmtOf (blockP n) n l) w):=by
 by_cases h0:keyK (hdT l).text =0
 ·exact stmt_set C n l d w _ rfl h0 hdn hk h
 ·exact stmt_word C n hbk l d w _ rfl h0 hdn hk h
theorem PaAt.ended {C:Pcx} {w:World} {l:List Tk} {d:Nat} (h:PaAt C w l d) (hk:C.Ok):Ended l:=by
 obtain⟨j,q,e,_⟩:=h.at_
 have hlen:=List.length_pos_iff.2 h.ne
 rw[e,List.length_drop]at hlen
 obtain⟨z,hz⟩:∃z,C.all[C.all.length - 1]?=some z:=⟨_,List.getElem?_eq_getElem (by omega)⟩
 have hd:=hk.ends _ z hz (by omega)
 rcases List.eq_nil_or_concat l with rfl|⟨s,y,rfl⟩
 ·exact absurd rfl h.ne
 ·refine⟨s,y,by simp,fun hl=>?_⟩
  have hy:(C.all.drop j)[C.all.length - j - 1]?=some y:=by
   rw[←e]
   have:C.all.length - j - 1=s.length:=by
    have:=congrArg List.length e
    simp at this
    omega
   rw[this]
   simp
  rw[List.getElem?_drop,show j+(C.all.length - j - 1)=C.all.length - 1 from by omega,hz]at hy
  rw[←Option.some.inj hy]at hl
  exact hl hd
theorem stV_ways {C:Pcx} {d:Nat} {r:PR St} {W w':World} {e:Ending} (h:EndV C d StVal r W e w'):
  (∃(x:St) (l:List Tk) (p:Loc),r= .ok x l∧e= .returned (.agg #[.int .u8 x.k,.string x.nm,.slice p.A x.args.len p.c,.slice p.B x.cond.len p.q,.slice p.D x.body.len p.e,.slice p.E x.els.len p.f,.int .i64 x.at_])∧StS w' (New W.heap.size w') x p∧PaAt C w' l d∧Fr C.T W w')∨
   ∃c a,r= .err c a∧e= .panicked [{v:= .iface 161 (.agg #[.int .i64 c,.int .i64 a]),recovered:=false}]∧Fr C.T W w':=by
 unfold EndV at h
 cases r with
 |err c a=>exact .inr ⟨c,a,rfl,h⟩
 |ok x l=>
  obtain⟨v,rfl,⟨p,rfl,hs⟩,hp,hf⟩:=h
  exact .inl ⟨x,l,p,rfl,rfl,hs,hp,hf⟩
theorem row_shape {w:World} {base:Nat} {e:TypeId} {size:Nat} {v:Value} {n:Nat} {xs:List Value} (h:w.ownsRow base e size v n xs):∃A c,v= .slice A n c∧n≤c∧c≤9223372036854775807:=by
 rcases h.2 with⟨rfl,rfl⟩|⟨g,cap,cur,rfl,_,_,h1,h2,_⟩
 ·exact⟨none,0,rfl,lrq _,by decide⟩
 ·exact⟨_,_,rfl,h1,by unfold maxLen at h2;omega⟩
theorem row_zero7 {w:World} {base:Nat} {e:TypeId} {g cap n:Nat} {cs:List Value} (h:w.ownsRow base e 7 (.slice (some ⟨g,0,none⟩) (n+1) cap) (n+1) (cs++zeroSt.toList)) (hl:cs.length=n*7):
  w.cell? ⟨g,n*7,none⟩=some (.int .u8 0)∧w.cell? ⟨g,n*7+1,none⟩=some (.string ⟨#[]⟩)∧w.cell? ⟨g,n*7+2,none⟩=some (.slice none 0 0)∧w.cell? ⟨g,n*7+3,none⟩=some (.slice none 0 0)∧w.cell? ⟨g,n*7+4,none⟩=some (.slice none 0 0)∧w.cell? ⟨g,n*7+5,none⟩=some (.slice none 0 0)∧w.cell? ⟨g,n*7+6,none⟩=some (.int .i64 0)∧∀j,w.frozen? ⟨g,j,none⟩=false:=by
 have key:∀j,j < 7→w.cell? ⟨g,n*7+j,none⟩=zeroSt.toList[j]?:=fun j hj=>by
  rw[h.cellAt (n*7+j) (by omega),List.getElem?_append_right (by omega),hl,Nat.add_sub_cancel_left]
 exact⟨key 0 (by omega),key 1 (by omega),key 2 (by omega),key 3 (by omega),key 4 (by omega),key 5 (by omega),key 6 (by omega),fun j=>h.frozenAt j⟩
theorem BlkX.stepN {C:Pcx} {w wr w7 w9:World} {d:Nat} {R:PR (List St)} {one:List Tk→PR St} {lb pb f:Nat} {v:Value} {acc:List St} {cs:List Value} {r r2:List Tk} {x:St} {p:Loc} {g cap m:Nat} (hm:m=acc.length)
  (hL:C.P < w.heap.size∧C.TB < w.heap.size∧C.W0.heap.size≤w.heap.size) (hlb:lb < w.heap.size) (hlP:lb≠C.P) (hlT:lb≠C.TB) (hl0:C.W0.heap.size≤lb)
  (hx:BlkX C w d R one lb pb v wr acc cs r) (hR:R=stmtsF one f (acc++ [x]) r2) (hrf:r2.length≤f) (hr2:r2.length < r.length)
  (hv:StS w7 (New wr.heap.size w7) x p) (hp:PaAt C w7 r2 d) (hf:Fr C.T wr w7) (W:World) (hwa:Fr NoT w7 W)
  (hown:w9.ownsRow w.heap.size 51 7 (.slice (some ⟨g,0,none⟩) (m+1) cap) (m+1) (cs++zeroSt.toList))
  (hg:W.grownBy w9 v.ownBlock) (hsp:v.ownBlock=some g∨g=W.heap.size) (w10:World)
  (hw10:w10=(((((((w9.setCell ⟨g,m*7,none⟩ (.int .u8 x.k)).setCell ⟨g,m*7+1,none⟩ (.string x.nm)).setCell ⟨g,m*7+2,none⟩ (.slice p.A x.args.len p.c)).setCell ⟨g,m*7+3,none⟩ (.slice p.B x.cond.len p.q)).setCell ⟨g,m*7+4,none⟩ (.slice p.D x.body.len p.e)).setCell ⟨g,m*7+5,none⟩ (.slice p.E x.els.len p.f)).setCell ⟨g,m*7+6,none⟩ (.int .i64 x.at_)).setCell ⟨lb,0,none⟩ (.slice (some ⟨g,0,none⟩) (m+1) cap)∨
   w10=(((((((w9.setCell ⟨lb,0,none⟩ (.slice (some ⟨g,0,none⟩) (m+1) cap)).setCell ⟨g,m*7,none⟩ (.int .u8 x.k)).setCell ⟨g,m*7+1,none⟩ (.string x.nm)).setCell ⟨g,m*7+2,none⟩ (.slice p.A x.args.len p.c)).setCell ⟨g,m*7+3,none⟩ (.slice p.B x.cond.len p.q)).setCell ⟨g,m*7+4,none⟩ (.slice p.D x.body.len p.e)).setCell ⟨g,m*7+5,none⟩ (.slice p.E x.els.len p.f)).setCell ⟨g,m*7+6,none⟩ (.int .i64 x.at_)):
  BlkX C w d R one lb pb (.slice (some ⟨g,0,none⟩) (acc.length+1) cap) w10 (acc++ [x]) (cs++stC x p) r2:=by
 subst hm
 have hgl:=hown.lt g rfl
 refine BlkX.step hL hlb hlP hlT hl0 hx hR hrf hr2 hv hp hf W hwa hown hg hsp w10 ?_
 rcases hw10 with h|h
 ·exact h
 ·have hne:∀j,(⟨lb,0,none⟩:Addr).block ≠(⟨g,j,none⟩:Addr).block :=fun j e=>by
   have e:lb=g:=e
   omega
  rw[h,setCell_comm (hne _),setCell_comm (hne _),setCell_comm (hne _),setCell_comm (hne _),setCell_comm (hne _),setCell_comm (hne _),setCell_comm (hne _)]
theorem BlkX.next {C:Pcx} {w wr w2:World} {d:Nat} {R:PR (List St)} {one:List Tk→PR St} {lb pb:Nat} {v:Value} {acc:List St} {cs:List Value} {r:List Tk} (hL:C.P < w.heap.size) (hlP:lb≠C.P) (hx:BlkX C w d R one lb pb v wr acc cs r) (hf:Fr C.T wr w2) (hp:PaAt C w2 r d):BlkX C w d R one lb pb v w2 acc cs r:=
 ⟨hx.eq,hx.lcell.fr hf hlP,row_keep hx.row hf hL,hx.rows.imp (hf.same fun b hb=>⟨hb.2.1,fun e=>by have e:b=C.P:=e;have:=hb.1;omega⟩) (fun b hb=>⟨hb.1,ltq hb.2.1 hf.size,hb.2.2⟩),hx.few,hp,hx.fr.trans (PT.l hf)⟩
theorem blk_less {C:Pcx} {w wr W:World} {d:Nat} {R:PR (List St)} {one:List Tk→PR St} {lb pb:Nat} {v v':Value} {acc acc':List St} {cs cs':List Value} {r r':List Tk} (h:BlkX C w d R one lb pb v' W acc' cs' r') (hx:BlkX C w d R one lb pb v wr acc cs r) (hl:r'.length < r.length):lenP C W < lenP C wr:=by
 rw[h.pa.lenP,hx.pa.lenP]
 exact hl
def BlbP (C:Pcx) (lb d:Nat) (r:PR (List St)) (W:World) (e:Ending) (w':World):Prop:=
 match r with
 | .err c a=>e=wrongE c a∧Fr (PT C lb) W w'
 | .ok xs l=>e= .returned (.tuple #[])∧(∃v,Bk w' lb 25 #[v]∧StlV w' W.heap.size v xs)∧PaAt C w' l d∧Fr (PT C lb) W w'
theorem blockb_any (C:Pcx) (n:Nat) (hbk:BlkC C n) (l:List Tk) (d pb lb:Nat) (w:World) (hdn:d+n=24) (hk:C.Ok) (h:PaAt C w l d) (hpb:Bk w pb 162 #[.pointer (some ⟨C.P,0,none⟩)]) (hpP:pb≠C.P) (hpl:pb≠lb)
  (hlbk:Bk w lb 25 #[.slice none 0 0]) (hlP:lb≠C.P) (hlT:lb≠C.TB) (hl0:C.W0.heap.size≤lb):
  Calls Tryz.prog 205 #[.pointer (some ⟨pb,0,none⟩),.pointer (some ⟨lb,0,none⟩)] w (BlbP C lb d (stmtsF (stmtOf (blockP n) n) l.length [] l) w):=by
 obtain⟨i0,hi,hz0,hz1,hz2⟩:=info_parts infoSt
 have HI:=hdq (aiq hi (aiq hz0 (aiq hz1 hz2)))
 obtain⟨R,hR⟩:=nmq (stmtsF (stmtOf (blockP n) n) l.length [] l)
 rw[←hR]
 have hL:=h.lts
 have hfl:l.length≤5000:=by
  obtain⟨j,q,e,_⟩:=h.at_
  have:=hk.few
  rw[e,List.length_drop];omega
 have hlb:=hlbk.lt
 have hstart:BlkX C w d R (stmtOf (blockP n) n) lb pb (.slice none 0 0) w [] [] l:=⟨⟨_,hR,lrq _⟩,hlbk,World.ownsRow_nil _ _ _ _,rfl,by simpa using hfl,h,Fr.refl _ _⟩
 have HST:=hdq hstart
 have HK:=hdq hk
 have HL:=hdq hL
 have HSC:=hdq (fun(l:List Tk) (W:World) (hW:PaAt C W l d)=>stmt_any C n hbk l d W hdn hk hW)
 have HPB:=hdq hpb
 have HEN:=hdq (fun(r:List Tk) (W:World) (hp:PaAt C W r d)=>hp.ended hk)
 have HN:=hdq (aiq hpP (aiq hpl (aiq hlP (aiq hlT (aiq hl0 hlb)))))
 clear hR h hk hL hfl hstart hbk hpb hlbk hi hz0 hz1 hz2 hpP hpl hlP hlT hl0 hlb
 go_enter Tryz.func205,Tryz.ntmps205
 go_wp2_with fail
 go_loopw [2] (fun _ wr=>∃(v:Value) (acc:List St) (cs:List Value) (r:List Tk),Hid (BlkX C w d R (stmtOf (blockP n) n) lb pb v wr acc cs r)) (fun _ wr=>lenP C wr)
 case atStart=>exact⟨_, [], [],l,HST⟩
 case round=>
  obtain⟨v,acc,cs,r,hx⟩:=hrel
  have hp0:=(HPB.out.fr hx.out.fr (fun e=>by rcases e with e|e;exact HN.out.1 e;exact HN.out.2.1 e)).cell 0
  simp only[List.getElem?_toArray,List.getElem?_cons_zero]at hp0
  have HM:=hdq (may_any C [125] r d wr HK.out hx.out.pa (by decide))
  go_wp2_with fail
  refine HM.out.mono ?_
  rintro _ w2 ⟨rfl,hp,hf⟩
  obtain⟨f,hRf,hfr⟩:=hx.out.eq
  have hrl:0 < r.length:=List.length_pos_iff.2 hx.out.pa.ne
  obtain⟨f,rfl⟩:∃f',f=f'+1:=⟨f - 1,by omega⟩
  unfold stmtsF at hRf
  cases hm:mayB [125] r
  rotate_left
  ·rw[hm]at hRf hp
   replace hp:PaAt C w2 r.tail d:=hp
   replace hRf:R= .ok acc r.tail:=hRf
   have HRF:=hdq hRf
   have hrow:=row_keep hx.out.row hf HL.out.1
   have hrows:=hx.out.rows.imp (S':=fun b=>w.heap.size≤b∧b < w2.heap.size) (hf.same fun b hb=>⟨hb.2.1,fun e=>by have e:b=C.P:=e;have:=hb.1;have:=HL.out.1;omega⟩) (fun b hb=>⟨hb.1,ltq hb.2.1 hf.size⟩)
   have HSL:=hdq (blk_end hrow hrows (fun b hb=>hb) (by have:=hx.out.few;omega))
   have HLC:=hdq (hx.out.lcell.fr hf HN.out.2.2.1)
   have HP:=hdq hp
   have HFF:=hdq (hx.out.fr.trans (PT.l hf))
   clear hp hf hRf hrow hrows hm
   go_wp2_with fail
   go_end0
   rw[HRF.out]
   exact⟨rfl,⟨_,HLC.out,HSL.out⟩,HP.out,HFF.out⟩
  ·rw[hm]at hRf hp
   replace hp:PaAt C w2 r d:=hp
   replace hRf:R=(stmtOf (blockP n) n r).then fun x r=>stmtsF (stmtOf (blockP n) n) f (acc++ [x]) r:=hRf
   have hx2:=BlkX.next HL.out.1 HN.out.2.2.1 hx.out hf hp
   obtain⟨pA,vc,rfl,hvc,hvm⟩:=row_shape hx2.row
   obtain⟨m,hmm⟩:=nmq acc.length
   rw[←hmm]at hx2
   have hfew:m≤5000:=by have:=hx2.few;omega
   have hm0:(0:Int)≤(m:Int):=by omega
   have hm1:(m:Int) < (m:Int)+1:=by omega
   have hm2:(m:Int)+1≤9223372036854775807:=by omega
   have hrow2:=hx2.row
   have hcl:=hx2.rows.len
   have hl2:=hx2.lcell.cell 0
   have hlf2:=hx2.lcell.frozen 0
   have hpw:=(HPB.out.fr hx2.fr (fun e=>by rcases e with e|e;exact HN.out.1 e;exact HN.out.2.1 e)).cell 0
   simp only[List.getElem?_toArray,List.getElem?_cons_zero]at hl2 hpw
   rw[←hmm]at hrow2 hcl
   have HSE:=hdq (fun W (hW:Fr NoT w2 W)=>HSC.out r W (hp.fr hW id id fun _ _=>id))
   have HX2:=hdq hx2
   have HRF:=hdq hRf
   have HMM:=hdq hmm
   have HFR:=hdq hfr
   have HEND:=hdq (HEN.out r w2 hp)
   have HROW:=hdq hrow2
   have HCL:=hdq hcl
   have hw2:w.heap.size≤w2.heap.size:=hx2.fr.size
   have hlbl:=HN.out.2.2.2.2.2
   have hpbl:=HPB.out.lt
   have hlb2:lb < w2.heap.size:=by omega
   have hpb2:pb < w2.heap.size:=by omega
   clear hp hf hx2 hRf hmm hfr hrow2 hcl hm hp0
   go_wp2_with fail
   go_region_law
    (first
     |(refine at_value _ _ _ (by rfl) ?_
       go_simp
       go_at_call 206
       with_reducible refine(HSE.out w2.drew (Fr.drew (Fr.refl _ _))).mono ?_
       intro e w7 hE
       rcases stV_ways hE with⟨x,r3,p,hX,rfl,hv,hp,hf⟩|⟨c,a2,hX,rfl,hf⟩
       case inr=>exact⟨rfl,by rw[HRF.out,hX];exact⟨rfl,HX2.out.fr.trans (PT.l ((Fr.drew (Fr.refl C.T w2)).trans hf))⟩⟩
       have hf7:Fr C.T w2 w7:=(Fr.drew (Fr.refl C.T w2)).trans hf
       have hsz7:=hf7.size
       have hlb7:lb < w7.heap.size:=by omega
       have hl7:=(HX2.out.lcell.fr hf7 HN.out.2.2.1).cell 0
       have hlf7:=(HX2.out.lcell.fr hf7 HN.out.2.2.1).frozen 0
       simp only[List.getElem?_toArray,List.getElem?_cons_zero]at hl7
       have hp7:=(hf7.cell (p:=⟨pb,0,none⟩) hpb2 HN.out.1).trans hpw
       have hpb7:pb < w7.heap.size:=by omega
       have HX:=hdq hX
       have HV:=hdq hv
       have HP:=hdq hp
       have HF7:=hdq hf7
       have HR7:=hdq ((row_keep HROW.out hf7 HL.out.1).alloc (.cells #[.int .u8 0,.string ⟨#[]⟩,.slice none 0 0,.slice none 0 0,.slice none 0 0,.slice none 0 0,.int .i64 0] 51))
       have HNB:=hdq (Bk.new w7 51 zeroSt).news
       have HW:=hdq (show Fr NoT w7 (w7.alloc (.cells #[.int .u8 0,.string ⟨#[]⟩,.slice none 0 0,.slice none 0 0,.slice none 0 0,.slice none 0 0,.int .i64 0] 51))from(Fr.refl _ _).alloc _)
       have HLC:=hdq ((HX2.out.lcell.fr hf7 HN.out.2.2.1).alloc (.cells #[.int .u8 0,.string ⟨#[]⟩,.slice none 0 0,.slice none 0 0,.slice none 0 0,.slice none 0 0,.int .i64 0] 51))
       clear hX hv hp hf hf7
       dsimp only)
     |(refine at_value _ _ _ (by rfl) ?_
       go_simp
       go_at_call 206
       with_reducible refine(HSE.out (w2.alloc (.cells #[.int .u8 0,.string ⟨#[]⟩,.slice none 0 0,.slice none 0 0,.slice none 0 0,.slice none 0 0,.int .i64 0] 51)).drew (Fr.drew ((Fr.refl _ _).alloc _))).mono ?_
       intro e w7 hE
       rcases stV_ways hE with⟨x,r3,p,hX,rfl,hv,hp,hf⟩|⟨c,a2,hX,rfl,hf⟩
       case inr=>exact⟨rfl,by rw[HRF.out,hX];exact⟨rfl,HX2.out.fr.trans (PT.l ((Fr.drew ((Fr.refl C.T w2).alloc _)).trans hf))⟩⟩
       have hf0:Fr C.T w2 (w2.alloc (.cells zeroSt 51)).drew :=Fr.drew ((Fr.refl C.T w2).alloc _)
       have hf7:Fr C.T w2 w7:=hf0.trans hf
       have hsz7:=hf7.size
       have hlb7:lb < w7.heap.size:=by omega
       have hl7:=(HX2.out.lcell.fr hf7 HN.out.2.2.1).cell 0
       have hlf7:=(HX2.out.lcell.fr hf7 HN.out.2.2.1).frozen 0
       simp only[List.getElem?_toArray,List.getElem?_cons_zero]at hl7
       have hp7:=(hf7.cell (p:=⟨pb,0,none⟩) hpb2 HN.out.1).trans hpw
       have hpb7:pb < w7.heap.size:=by omega
       have HX:=hdq hX
       have HV:=hdq (hv.imp (S':=New w2.heap.size w7) (SameS.refl _ _) fun b hb=>⟨leq9 hf0.size hb.1,hb.2⟩)
       have HP:=hdq hp
       have HF7:=hdq hf7
       have HR7:=hdq (row_keep HROW.out hf7 HL.out.1)
       have HNB:=hdq (((show Bk (w2.alloc (.cells zeroSt 51)).drew w2.heap.size 51 zeroSt from Bk.new _ _ _).fr hf (fun e=>by have e:w2.heap.size=C.P:=e;have:=HL.out.1;omega))).news
       have HW:=hdq (Fr.refl NoT w7)
       have HLC:=hdq (HX2.out.lcell.fr hf7 HN.out.2.2.1)
       clear hX hv hp hf hf7 hf0
       dsimp only)
     |(refine step_append_lies _ (by rfl) _ _ _ (by rfl) w.heap.size 51 i0 (.agg zeroSt) 7 128 Tryz.underlying25 HI.out.1 HI.out.2.1 HI.out.2.2.1 HI.out.2.2.2 rfl (by decide) (.slice pA m vc) m cs (by rfl) HR7.out ⟨w7.heap.size,0,none⟩ 1 1 zeroSt.toList (by rfl) (by rfl) HNB.out (by simp[zeroSt,Value.oneCell']) (by omega) (by unfold maxLen;omega) (by omega) (by rw[World.size_alloc];omega) (w7.heap.size+1) (World.size_alloc _ _) ?_
       intro gg cap w9 hown hgrow hsp hlt
       have hgg:=hown.lt gg rfl
       obtain⟨c0,c1,c2,c3,c4,c5,c6,cf⟩:=row_zero7 hown HCL.out
       have cf0:=cf (m*7)
       have cf1:=cf (m*7+1)
       have cf2:=cf (m*7+2)
       have cf3:=cf (m*7+3)
       have cf4:=cf (m*7+4)
       have cf5:=cf (m*7+5)
       have cf6:=cf (m*7+6)
       have hown7:=HR7.out.lt
       have hl9:=(hgrow.cell_far ⟨lb,0,none⟩ (by show lb < _;rw[World.size_alloc];omega) (fun e=>by have:=(hown7 lb e.symm).1;omega)).trans (HLC.out.cell 0)
       have hlf9:=(hgrow.frozen_far ⟨lb,0,none⟩ (by show lb < _;rw[World.size_alloc];omega) (fun e=>by have:=(hown7 lb e.symm).1;omega)).trans (HLC.out.frozen 0)
       simp only[List.getElem?_toArray,List.getElem?_cons_zero]at hl9
       have hne1:¬lb=gg:=by omega
       have hne2:¬gg=lb:=by omega
       have hrl:=stmtOf_less (blockP_loc n) n HEND.out HX.out
       have HE:=hdq (fun w10 h10=>BlkX.stepN (w10:=w10) (f:=f) HMM.out HL.out HN.out.2.2.2.2.2 HN.out.2.2.1 HN.out.2.2.2.1 HN.out.2.2.2.2.1 HX2.out (by rw[HRF.out,HX.out];rfl) (by have:=HFR.out;omega) hrl HV.out HP.out HF7.out _ HW.out hown hgrow (hsp.imp id fun e=>by rw[World.size_alloc];exact e) h10)
       have HRL:=hdq hrl
       have HSW:=hdq hgrow.size
       clear hown cf hgrow hsp hown7 hrl)
     |(refine step_append_lies _ (by rfl) _ _ _ (by rfl) w.heap.size 51 i0 (.agg zeroSt) 7 128 Tryz.underlying25 HI.out.1 HI.out.2.1 HI.out.2.2.1 HI.out.2.2.2 rfl (by decide) (.slice pA m vc) m cs (by rfl) HR7.out ⟨w2.heap.size,0,none⟩ 1 1 zeroSt.toList (by rfl) (by rfl) HNB.out (by simp[zeroSt,Value.oneCell']) (by omega) (by unfold maxLen;omega) (by omega) (by omega) w7.heap.size rfl ?_
       intro gg cap w9 hown hgrow hsp hlt
       have hgg:=hown.lt gg rfl
       obtain⟨c0,c1,c2,c3,c4,c5,c6,cf⟩:=row_zero7 hown HCL.out
       have cf0:=cf (m*7)
       have cf1:=cf (m*7+1)
       have cf2:=cf (m*7+2)
       have cf3:=cf (m*7+3)
       have cf4:=cf (m*7+4)
       have cf5:=cf (m*7+5)
       have cf6:=cf (m*7+6)
       have hown7:=HR7.out.lt
       have hl9:=(hgrow.cell_far ⟨lb,0,none⟩ (by show lb < _;omega) (fun e=>by have:=(hown7 lb e.symm).1;omega)).trans (HLC.out.cell 0)
       have hlf9:=(hgrow.frozen_far ⟨lb,0,none⟩ (by show lb < _;omega) (fun e=>by have:=(hown7 lb e.symm).1;omega)).trans (HLC.out.frozen 0)
       simp only[List.getElem?_toArray,List.getElem?_cons_zero]at hl9
       have hne1:¬lb=gg:=by omega
       have hne2:¬gg=lb:=by omega
       have hrl:=stmtOf_less (blockP_loc n) n HEND.out HX.out
       have HE:=hdq (fun w10 h10=>BlkX.stepN (w10:=w10) (f:=f) HMM.out HL.out HN.out.2.2.2.2.2 HN.out.2.2.1 HN.out.2.2.2.1 HN.out.2.2.2.2.1 HX2.out (by rw[HRF.out,HX.out];rfl) (by have:=HFR.out;omega) hrl HV.out HP.out HF7.out _ HW.out hown hgrow hsp h10)
       have HRL:=hdq hrl
       have HSW:=hdq hgrow.size
       clear hown cf hgrow hsp hown7 hrl))
   all_goals
    clear c0 c1 c2 c3 c4 c5 c6 cf0 cf1 cf2 cf3 cf4 cf5 cf6
    go_wp2_with fail
    go_roundw
    case rel=>
     first
      |exact⟨_,_,_,_,hdq (HE.out _ (.inl (by with_reducible rfl)))⟩
      |exact⟨_,_,_,_,hdq (HE.out _ (.inr (by with_reducible rfl)))⟩
    case measure=>
     first
      |exact blk_less (HE.out _ (.inl (by with_reducible rfl))) hx.out HRL.out
      |exact blk_less (HE.out _ (.inr (by with_reducible rfl))) hx.out HRL.out
end Go.Proofs.YtfomomaomggpbaaGreatDoor
