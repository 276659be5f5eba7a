/-
  A row of one-cell values put behind nothing, and one more behind it.
-/
import Derived.Test.YtmopichdofgndaaGreatDoorJgRtNamed
import Derived.Test.YtmopichdofgndaaGreatDoorJgSoftW
set_option linter.unusedVariables false
set_option linter.unusedSimpArgs false
set_option maxHeartbeats 3200000
set_option maxRecDepth 100000
namespace Go.Proofs.YtmopichdofgndaaGreatDoor
open Go.RowKit Go.Shelf

theorem Fr.back0 {a b c:World} (h:Fr NoT a b) (k:Fr (fun x=>a.heap.size≤x) b c):Fr NoT a c:=
 ⟨k.os.trans h.os,k.tape.trans h.tape,k.output.trans h.output,leq9 h.size k.size,fun i hi _=>(k.block i (ltq hi h.size) (by omega)).trans (h.block i hi id)⟩
theorem dbl_app {w:World} {xs:List Value} {A:Option Addr} {c:Nat} (h:RwR w xs A c) (h1:∀u∈xs,u.oneCell'=true) (x:Value) (hx1:x.oneCell'=true) (t e:TypeId) (i:TypeInfo) (z:Value) (B:Nat) (ht:Tryz.prog.underlying t=some (.slice e)) (hi:Tryz.prog.info? e=some i) (hz:i.zero=some z) (hs:i.size=1) (hB:i.bytes=B) (hzs:z.cells.size=1) (hB16:B≤16) (hn:xs.length≤1000) (t1 t2:TypeId):
  ∃v1 w1 g cap w2,(Builtin.append_ #[t,t] t1 #[.slice none 0 0,.slice A xs.length c]).run Tryz.prog w= .ok v1 w1∧(Builtin.append_ #[t,t] t2 #[v1,.slice (some ⟨w1.heap.size,0,none⟩) 1 1]).run Tryz.prog (w1.alloc (.cells #[x] e))= .ok (.slice (some ⟨g,0,none⟩) (xs.length+1) cap) w2∧
   Fr NoT w w2∧RwR w2 (xs++ [x]) (some ⟨g,0,none⟩) cap∧w.heap.size≤g:=by
 have hm:xs.length≤9223372036854775807:=by omega
 have first:∃v1 w1,(Builtin.append_ #[t,t] t1 #[.slice none 0 0,.slice A xs.length c]).run Tryz.prog w= .ok v1 w1∧w1.ownsRow w.heap.size e 1 v1 xs.length xs∧Fr NoT w w1:=by
  by_cases h0:0 < xs.length
  ·obtain⟨b,rfl,hb,hat⟩:=h.2.2 h0
   obtain⟨v',w',hr,ho,hg,_⟩:=run_append_own (P:=Tryz.prog) w w.heap.size t t1 e i z 1 B ht hi hz hs hB hzs (by decide) (.slice none 0 0) 0 [] (World.ownsRow_nil _ _ _ _) ⟨b,0,none⟩ xs.length c xs (by simp)
    (fun j u hj=>by
     have e:(⟨b,0,none⟩:Addr).add j=⟨b,j,none⟩:=by unfold Addr.add;split<;>simp_all
     rw[e];exact hat j u hj) h1 (by unfold maxLen;omega) (by have:=Nat.mul_le_mul hn hB16;simp only[Nat.zero_add];omega) (lrq _)
   exact⟨v',w',hr,by simpa using ho,Fr.grown hg fun g e _=>by simp[Value.ownBlock]at e⟩
  ·have hxn:xs= []:=by cases xs with|nil=>rfl|cons=>simp at h0
   subst hxn
   cases A with
   |some a=>
    obtain⟨v',w',hr,ho,hg,_⟩:=run_append_own (P:=Tryz.prog) w w.heap.size t t1 e i z 1 B ht hi hz hs hB hzs (by decide) (.slice none 0 0) 0 [] (World.ownsRow_nil _ _ _ _) a 0 c [] rfl (fun j u hj=>by simp at hj) (fun u hu=>by simp at hu) (by decide) (by simp) (lrq _)
    exact⟨v',w',hr,ho,Fr.grown hg fun g e _=>by simp[Value.ownBlock]at e⟩
   |none=>
    refine⟨.slice none 0 0,w,?_,World.ownsRow_nil _ _ _ _,Fr.refl _ _⟩
    simp[Builtin.append_,run_underlying ht,sizeOf,typeInfo,hi,Builtin.lenOf,Builtin.firstCells]
 obtain⟨v1,w1,hr1,ho1,hf1⟩:=first
 have hk:=Bk.new w1 e #[x]
 have hfa:Fr NoT w1 (w1.alloc (.cells #[x] e)):=(Fr.refl _ _).alloc _
 obtain⟨v',w',hr,ho2,hg,_⟩:=run_append_own (P:=Tryz.prog) (w1.alloc (.cells #[x] e)) w.heap.size t t2 e i z 1 B ht hi hz hs hB hzs (by decide) v1 xs.length xs (ho1.alloc _) ⟨w1.heap.size,0,none⟩ 1 1 [x] rfl
  (fun j u hj=>by
   have:=hk.cell j
   have e:(⟨w1.heap.size,0,none⟩:Addr).add j=⟨w1.heap.size,j,none⟩:=by unfold Addr.add;split<;>simp_all
   rw[e,this];simpa using hj) (fun u hu=>by simp at hu;rw[hu];exact hx1) (by unfold maxLen;omega) (by have:=Nat.mul_le_mul (show xs.length+1≤1001 by omega) hB16;omega) (leq9 hf1.size hfa.size)
 obtain⟨g,cap,rfl,hg1,hg2⟩:=ho2.form (by omega)
 have hcap:xs.length+1≤cap∧cap≤9223372036854775807:=by
  rcases ho2.2 with⟨h,_⟩|⟨g',cap',cur,h,_,_,h3,h4,_⟩
  ·simp at h
  ·simp only[Value.slice.injEq,Option.some.injEq]at h
   obtain⟨_,_,rfl⟩:=h
   exact⟨h3,by simpa[maxLen]using h4⟩
 have hf2:Fr (fun b=>w.heap.size≤b) (w1.alloc (.cells #[x] e)) w':=Fr.grown hg fun g' e _=>(ho1.lt g' e).1
 refine⟨v1,w1,g,cap,w',hr1,hr,Fr.back0 (hf1.trans hfa) hf2,⟨by simpa using hcap.1,hcap.2,fun _=>⟨g,rfl,hg2,fun j u hj=>?_⟩⟩,hg1⟩
 have hj2:j < (xs.length+1)*1:=by
  have h1:=(List.getElem?_eq_some_iff.1 hj).1
  simp at h1
  omega
 rw[ho2.cellAt j hj2]
 exact hj

theorem infoStr0:(Tryz.prog.info? 9).map (fun i=>(i.zero,i.size,i.bytes))=some (some (.string ⟨#[]⟩),1,16):=by kernel_rfl
theorem infoInt0:(Tryz.prog.info? 3).map (fun i=>(i.zero,i.size,i.bytes))=some (some (.int .i64 0),1,8):=by kernel_rfl
theorem infoWd:(Tryz.prog.info? 164).map (·.size)=some 3:=by kernel_rfl
theorem RwR.keepT {w w':World} {T:Nat→Prop} {xs:List Value} {g c:Nat} (h:RwR w xs (some ⟨g,0,none⟩) c) (hf:Fr T w w') (hg:¬T g):RwR w' xs (some ⟨g,0,none⟩) c:=
 ⟨h.1,h.2.1,fun h0=>by
  obtain⟨b,e,hb,hc⟩:=h.2.2 h0
  simp only[Option.some.injEq,Addr.mk.injEq,and_true]at e
  subst e
  exact⟨g,rfl,ltq hb hf.size,fun i u hi=>(hf.cell (p:=⟨g,i,none⟩) hb hg).trans (hc i u hi)⟩⟩
def WithP (ws:Wl) (x:ByteArray×Int×Int) (W:World) (e:Ending) (w':World):Prop:=∃g1 g2 g3 c1 c2 c3,e= .returned (wdV (ws++ [x]) (some ⟨g1,0,none⟩) (some ⟨g2,0,none⟩) (some ⟨g3,0,none⟩) c1 c2 c3)∧WdR w' (ws++ [x]) (some ⟨g1,0,none⟩) (some ⟨g2,0,none⟩) (some ⟨g3,0,none⟩) c1 c2 c3∧(W.heap.size≤g1∧W.heap.size≤g2∧W.heap.size≤g3)∧Fr NoT W w'
theorem rwith_any (ws:Wl) (nm:ByteArray) (kind many:Int) (w:World) (An Ak Am:Option Addr) (cn ck cm:Nat) (hx:WdR w ws An Ak Am cn ck cm) (hn:ws.length≤1000):
  Calls Tryz.prog 153 #[wdV ws An Ak Am cn ck cm,.string nm,.int .i64 kind,.int .i64 many] w (WithP ws (nm,kind,many) w):=by
 obtain⟨iS,hiS,hzS,hsS,hbS⟩:=info_parts infoStr0
 obtain⟨iI,hiI,hzI,hsI,hbI⟩:=info_parts infoInt0
 have hl:ws.length≤9223372036854775807:=by omega
 -- the boxes
 obtain⟨w3,hw3⟩:=nmq (((w.alloc (.cells #[.slice An ws.length cn,.slice Ak ws.length ck,.slice Am ws.length cm] 164)).alloc (.cells #[.slice none 0 0,.slice none 0 0,.slice none 0 0] 164)).alloc (.cells #[.slice none 0 0,.slice none 0 0,.slice none 0 0] 164))
 have hf3:Fr NoT w w3:=by rw[hw3];exact(((Fr.refl _ _).alloc _).alloc _).alloc _
 have k4:Bk w3 w.heap.size 164 #[.slice An ws.length cn,.slice Ak ws.length ck,.slice Am ws.length cm]:=by
  rw[hw3];exact(Bk.new _ _ _).fr0 (((Fr.refl _ _).alloc _).alloc _)
 have k8:Bk w3 (w.heap.size+1) 164 #[.slice none 0 0,.slice none 0 0,.slice none 0 0]:=by
  rw[hw3]
  have:=(Bk.new (w.alloc (.cells #[.slice An ws.length cn,.slice Ak ws.length ck,.slice Am ws.length cm] 164)) 164 #[.slice none 0 0,.slice none 0 0,.slice none 0 0]).fr0 ((Fr.refl NoT _).alloc (.cells #[.slice none 0 0,.slice none 0 0,.slice none 0 0] 164))
  simpa using this
 have k9:Bk w3 (w.heap.size+1+1) 164 #[.slice none 0 0,.slice none 0 0,.slice none 0 0]:=by
  rw[hw3]
  have:=Bk.new ((w.alloc (.cells #[.slice An ws.length cn,.slice Ak ws.length ck,.slice Am ws.length cm] 164)).alloc (.cells #[.slice none 0 0,.slice none 0 0,.slice none 0 0] 164)) 164 #[.slice none 0 0,.slice none 0 0,.slice none 0 0]
  simpa using this
 -- names
 have hnS:∀u∈ws.map (fun x:ByteArray×Int×Int=>Value.string x.1),u.oneCell'=true:=by intro u hu;simp only[List.mem_map]at hu;obtain⟨y,_,rfl⟩:=hu;rfl
 have hnK:∀u∈ws.map (fun x:ByteArray×Int×Int=>Value.int .i64 x.2.1),u.oneCell'=true:=by intro u hu;simp only[List.mem_map]at hu;obtain⟨y,_,rfl⟩:=hu;rfl
 have hnM:∀u∈ws.map (fun x:ByteArray×Int×Int=>Value.int .i64 x.2.2),u.oneCell'=true:=by intro u hu;simp only[List.mem_map]at hu;obtain⟨y,_,rfl⟩:=hu;rfl
 obtain⟨v1,wa,g1,c1,w5,hr1,hr2,hf5,hrow1,hg1⟩:=dbl_app (hx.names.keep hf3) hnS (.string nm) rfl 162 9 iS _ 16 Tryz.underlying162 hiS hzS hsS hbS rfl (by decide) (by simpa using hn) 162 162
 rw[List.length_map]at hr1 hr2
 have k4a:=k4.fr0 hf5
 have k8a:=k8.fr0 hf5
 have k9a:=k9.fr0 hf5
 have hf5':=hf3.trans hf5
 obtain⟨w6,hw6⟩:=nmq (w5.setCell ⟨w.heap.size+1+1,0,none⟩ (.slice (some ⟨g1,0,none⟩) (ws.length+1) c1))
 have hf6:Fr NoT w w6:=by rw[hw6];exact Fr.high hf5' (by omega) 0 _
 have ft6:Fr (fun b=>b=w.heap.size+1∨b=w.heap.size+1+1) w5 w6:=by rw[hw6];exact Fr.setCell (Fr.refl _ _) (.inl (.inr rfl)) _
 have k4b:=k4a.far (p:=⟨w.heap.size+1+1,0,none⟩) (by simp;omega) (.slice (some ⟨g1,0,none⟩) (ws.length+1) c1)
 rw[←hw6]at k4b
 have k8b:=k8a.far (p:=⟨w.heap.size+1+1,0,none⟩) (by simp) (.slice (some ⟨g1,0,none⟩) (ws.length+1) c1)
 rw[←hw6]at k8b
 have k9b:=k9a.set_ 0 (.slice (some ⟨g1,0,none⟩) (ws.length+1) c1)
 rw[←hw6]at k9b
 -- kinds
 obtain⟨v2,wb,g2,c2,w8,hr3,hr4,hf8,hrow2,hg2⟩:=dbl_app (hx.kinds.keep hf6) hnK (.int .i64 kind) rfl 50 3 iI _ 8 Tryz.underlying50 hiI hzI hsI hbI rfl (by decide) (by simpa using hn) 50 50
 rw[List.length_map]at hr3 hr4
 have k4c:=k4b.fr0 hf8
 have k8c:=k8b.fr0 hf8
 have k9c:=k9b.fr0 hf8
 have hf8':=hf6.trans hf8
 obtain⟨w9,hw9⟩:=nmq (w8.setCell ⟨w.heap.size+1+1,1,none⟩ (.slice (some ⟨g2,0,none⟩) (ws.length+1) c2))
 have hf9:Fr NoT w w9:=by rw[hw9];exact Fr.high hf8' (by omega) 1 _
 have ft9:Fr (fun b=>b=w.heap.size+1∨b=w.heap.size+1+1) w8 w9:=by rw[hw9];exact Fr.setCell (Fr.refl _ _) (.inl (.inr rfl)) _
 have k4d:=k4c.far (p:=⟨w.heap.size+1+1,1,none⟩) (by simp;omega) (.slice (some ⟨g2,0,none⟩) (ws.length+1) c2)
 rw[←hw9]at k4d
 have k8d:=k8c.far (p:=⟨w.heap.size+1+1,1,none⟩) (by simp) (.slice (some ⟨g2,0,none⟩) (ws.length+1) c2)
 rw[←hw9]at k8d
 have k9d:=k9c.set_ 1 (.slice (some ⟨g2,0,none⟩) (ws.length+1) c2)
 rw[←hw9]at k9d
 -- how many
 obtain⟨v3,wc,g3,c3,w11,hr5,hr6,hf11,hrow3,hg3⟩:=dbl_app (hx.many.keep hf9) hnM (.int .i64 many) rfl 50 3 iI _ 8 Tryz.underlying50 hiI hzI hsI hbI rfl (by decide) (by simpa using hn) 50 50
 rw[List.length_map]at hr5 hr6
 have k8e:=k8d.fr0 hf11
 have k9e:=k9d.fr0 hf11
 have hf11':=hf9.trans hf11
 have ft:Fr (fun b=>b=w.heap.size+1∨b=w.heap.size+1+1) w11 ((((w11.setCell ⟨w.heap.size+1+1,2,none⟩ (.slice (some ⟨g3,0,none⟩) (ws.length+1) c3)).setCell ⟨w.heap.size+1,0,none⟩ (.slice (some ⟨g1,0,none⟩) (ws.length+1) c1)).setCell ⟨w.heap.size+1,1,none⟩ (.slice (some ⟨g2,0,none⟩) (ws.length+1) c2)).setCell ⟨w.heap.size+1,2,none⟩ (.slice (some ⟨g3,0,none⟩) (ws.length+1) c3)):=
  Fr.setCell (Fr.setCell (Fr.setCell (Fr.setCell (Fr.refl _ _) (.inl (.inr rfl)) _) (.inl (.inl rfl)) _) (.inl (.inl rfl)) _) (.inl (.inl rfl)) _
 have hfF:Fr NoT w ((((w11.setCell ⟨w.heap.size+1+1,2,none⟩ (.slice (some ⟨g3,0,none⟩) (ws.length+1) c3)).setCell ⟨w.heap.size+1,0,none⟩ (.slice (some ⟨g1,0,none⟩) (ws.length+1) c1)).setCell ⟨w.heap.size+1,1,none⟩ (.slice (some ⟨g2,0,none⟩) (ws.length+1) c2)).setCell ⟨w.heap.size+1,2,none⟩ (.slice (some ⟨g3,0,none⟩) (ws.length+1) c3)):=
  Fr.high (Fr.high (Fr.high (Fr.high hf11' (by omega) _ _) (by omega) _ _) (by omega) _ _) (by omega) _ _
 have hs3:w3.heap.size=w.heap.size+1+1+1:=by rw[hw3];simp
 have hs6:w3.heap.size≤w6.heap.size:=leq9 hf5.size ft6.size
 have hs9:w3.heap.size≤w9.heap.size:=leq9 hs6 (leq9 hf8.size ft9.size)
 have HOUT:=hdq (show WdR _ (ws++ [(nm,kind,many)]) (some ⟨g1,0,none⟩) (some ⟨g2,0,none⟩) (some ⟨g3,0,none⟩) c1 c2 c3 from
  ⟨by rw[List.map_append];exact(((((hrow1.keepT ft6 (by omega)).keep hf8).keepT ft9 (by omega)).keep hf11).keepT ft (by omega)),by rw[List.map_append];exact(((hrow2.keepT ft9 (by omega)).keep hf11).keepT ft (by omega)),by rw[List.map_append];exact hrow3.keepT ft (by omega)⟩)
 have HFF:=hdq hfF
 have HG:=hdq (show w.heap.size≤g1∧w.heap.size≤g2∧w.heap.size≤g3 from⟨by omega,by omega,by omega⟩)
 have k8F:=((((k8e.far (p:=⟨w.heap.size+1+1,2,none⟩) (by simp) (.slice (some ⟨g3,0,none⟩) (ws.length+1) c3)).set_ 0 (.slice (some ⟨g1,0,none⟩) (ws.length+1) c1)).set_ 1 (.slice (some ⟨g2,0,none⟩) (ws.length+1) c2)).set_ 2 (.slice (some ⟨g3,0,none⟩) (ws.length+1) c3))
 simp only[List.setIfInBounds_toArray,List.set_cons_zero,List.set_cons_succ]at k8F
 have HK8:=hdq k8F
 have y0:=k9a.cell 0
 have y1:=k9a.frozen 0
 have y2:=k9a.lt
 have z0:=k9c.cell 1
 have z1:=k9c.frozen 1
 have z2:=k9c.lt
 have x0:=k9e.cell 0
 have x1:=k9e.cell 1
 have x2:=k9e.cell 2
 have x3:=k9e.frozen 2
 have x4:=k9e.lt
 have u0:=k8e.cell 0
 have u1:=k8e.cell 1
 have u2:=k8e.cell 2
 have u3:=k8e.frozen 0
 have u4:=k8e.frozen 1
 have u5:=k8e.frozen 2
 have u6:=k8e.lt
 have t1:=k4a.cell 1
 have t2:=k4c.cell 2
 have t3:=k4a.lt
 have t4:=k4c.lt
 simp only[List.getElem?_toArray,List.getElem?_cons_succ,List.getElem?_cons_zero,List.setIfInBounds_toArray,List.set_cons_zero,List.set_cons_succ]at y0 z0 x0 x1 x2 u0 u1 u2 t1 t2
 rw[hw3]at hr1
 rw[hw6]at hr3
 rw[hw9]at hr5
 have HR1:=hdq hr1
 have HR2:=hdq hr2
 have HR3:=hdq hr3
 have HR4:=hdq hr4
 have HR5:=hdq hr5
 have HR6:=hdq hr6
 unfold wdV
 clear k8F hr1 hr2 hr3 hr4 hr5 hr6 hfF ft hf3 hf5 hf5' hf6 hf8 hf8' hf9 hf11 hf11' ft6 ft9 k4 k8 k9 k4a k8a k9a k4b k8b k9b k4c k8c k9c k4d k8d k9d k8e k9e hrow1 hrow2 hrow3 hnS hnK hnM hx hs3 hs6 hs9 hg1 hg2 hg3 hiS hzS hsS hbS hiI hzI hsI hbI hw3 hw6 hw9
 go_enter Tryz.func153,Tryz.ntmps153
 go_wp2_with (at_builtin;first|(refine wpList_append_run rfl _ _ 162 rfl (.slice none 0 0) (.slice An ws.length cn) v1 rfl rfl HR1.out ?_;clear HR1)|(refine wpList_append_run rfl _ _ 162 rfl v1 _ _ rfl rfl HR2.out ?_;clear HR2)|(refine wpList_append_run rfl _ _ 50 rfl (.slice none 0 0) (.slice Ak ws.length ck) v2 rfl rfl HR3.out ?_;clear HR3)|(refine wpList_append_run rfl _ _ 50 rfl v2 _ _ rfl rfl HR4.out ?_;clear HR4)|(refine wpList_append_run rfl _ _ 50 rfl (.slice none 0 0) (.slice Am ws.length cm) v3 rfl rfl HR5.out ?_;clear HR5)|(refine wpList_append_run rfl _ _ 50 rfl v3 _ _ rfl rfl HR6.out ?_;clear HR6))
 refine bodyPost_ret (results_cell_row (p:=8) (ty:=164) rfl _ _ (w.heap.size+1) 164 _ (0,0) _ rfl HK8.out Tryz.underlying164 rfl infoWd) rfl ⟨_,_,_,_,_,_,?_,HOUT.out,HG.out,HFF.out⟩
 unfold wdV
 rw[show(ws++ [(nm,kind,many)]).length =ws.length+1 from by simp]

def upI (lim:Int):Wl→Nat→Wl
 | [],_=> []
 |x::r,i=>if x.2.1≠3∨(i:Int) < lim then x::upI lim r (i+1)else upI lim r (i+1)
theorem upI_cons (lim:Int) (x:ByteArray×Int×Int) (r:Wl) (i:Nat):upI lim (x::r) i=if x.2.1≠3∨(i:Int) < lim then x::upI lim r (i+1)else upI lim r (i+1):=rfl
def UpP (ws:Wl) (W:World) (e:Ending) (w':World):Prop:=∃An Ak Am cn ck cm,e= .returned (wdV ws An Ak Am cn ck cm)∧WdR w' ws An Ak Am cn ck cm∧Fr NoT W w'
theorem RwR.keepA {w w':World} {T:Nat→Prop} {xs:List Value} {A:Option Addr} {c:Nat} (h:RwR w xs A c) (hf:Fr T w w') (hg:∀b,A=some ⟨b,0,none⟩→¬T b):RwR w' xs A c:=
 ⟨h.1,h.2.1,fun h0=>by
  obtain⟨b,e,hb,hc⟩:=h.2.2 h0
  exact⟨b,e,ltq hb hf.size,fun i u hi=>(hf.cell (p:=⟨b,i,none⟩) hb (hg b e)).trans (hc i u hi)⟩⟩
def Above (B:Nat) (A1 A2 A3:Option Addr):Prop:=(∀b,A1=some ⟨b,0,none⟩→B < b)∧(∀b,A2=some ⟨b,0,none⟩→B < b)∧(∀b,A3=some ⟨b,0,none⟩→B < b)
theorem WdR.keepA {w w':World} {T:Nat→Prop} {B:Nat} {ws:Wl} {An Ak Am:Option Addr} {cn ck cm:Nat} (h:WdR w ws An Ak Am cn ck cm) (ha:Above B An Ak Am) (hf:Fr T w w') (ht:∀b,T b→b≤B):WdR w' ws An Ak Am cn ck cm:=
 ⟨h.names.keepA hf fun b e hT=>by have:=ha.1 b e;have:=ht b hT;omega,h.kinds.keepA hf fun b e hT=>by have:=ha.2.1 b e;have:=ht b hT;omega,h.many.keepA hf fun b e hT=>by have:=ha.2.2 b e;have:=ht b hT;omega⟩
structure UpW (w1:World) (b7:Nat) (lim:Int) (ws:Wl) (k:Nat) (wr:World):Prop where
 fr:Fr (fun b=>b=b7) w1 wr
 out:∃acc A1 A2 A3 c1 c2 c3,Bk wr b7 164 #[.slice A1 (List.length acc) c1,.slice A2 (List.length acc) c2,.slice A3 (List.length acc) c3]∧WdR wr acc A1 A2 A3 c1 c2 c3∧acc++upI lim (ws.drop k) k=upI lim ws 0∧acc.length≤k∧Above b7 A1 A2 A3
theorem rupto_any (ws:Wl) (Av Aa Ap Am':Option Addr) (nv na np nm' cv ca cp cm':Nat) (mk:Nat) (w:World) (An Ak Am:Option Addr) (cn ck cm:Nat) (hx:WdR w ws An Ak Am cn ck cm) (hn:ws.length≤900) (hnv:nv≤1000000) (hna:na≤1000000) (hmk:mk≤1000000):
  Calls Tryz.prog 154 #[.agg #[.slice Av nv cv,.slice Aa na ca,.slice Ap np cp,.slice Am' nm' cm'],wdV ws An Ak Am cn ck cm,.int .i64 mk] w (UpP (upI ((nv:Int)+na+mk) ws 0) w):=by
 have hl:ws.length≤9223372036854775807:=by omega
 obtain⟨lim,hlim⟩:=nmq (((nv:Int)+na+mk))
 rw[←hlim]
 unfold wdV
 have HX:=hdq hx
 obtain⟨m,hm⟩:=nmq ws.length
 rw[←hm]at hl hn ⊢
 have HM:=hdq hm
 obtain⟨w1,hw1⟩:=nmq ((((w.alloc (.cells #[.slice Av nv cv,.slice Aa na ca,.slice Ap np cp,.slice Am' nm' cm'] 27)).alloc (.cells #[.slice An m cn,.slice Ak m ck,.slice Am m cm] 164)).alloc (.cells #[.slice none 0 0,.slice none 0 0,.slice none 0 0] 164)).alloc (.cells #[.slice none 0 0,.slice none 0 0,.slice none 0 0] 164))
 have hf1:Fr NoT w w1:=by rw[hw1];exact((((Fr.refl _ _).alloc _).alloc _).alloc _).alloc _
 have k3:Bk w1 w.heap.size 27 #[.slice Av nv cv,.slice Aa na ca,.slice Ap np cp,.slice Am' nm' cm']:=by
  rw[hw1];exact(Bk.new _ _ _).fr0 ((((Fr.refl _ _).alloc _).alloc _).alloc _)
 have k4:Bk w1 (w.heap.size+1) 164 #[.slice An m cn,.slice Ak m ck,.slice Am m cm]:=by
  rw[hw1]
  exact(Bk.new_at _ _ _ (by simp)).fr0 (((Fr.refl _ _).alloc _).alloc _)
 have k6:Bk w1 (w.heap.size+1+1) 164 #[.slice none 0 0,.slice none 0 0,.slice none 0 0]:=by
  rw[hw1]
  exact(Bk.new_at _ _ _ (by simp)).fr0 ((Fr.refl _ _).alloc _)
 have k7:Bk w1 (w.heap.size+1+1+1) 164 #[.slice none 0 0,.slice none 0 0,.slice none 0 0]:=by
  rw[hw1]
  exact Bk.new_at _ _ _ (by simp)
 have HF1:=hdq hf1
 have HK3:=hdq k3
 have HK4:=hdq k4
 have HK6:=hdq k6
 have HU0:=hdq (show UpW w1 (w.heap.size+1+1+1) lim ws 0 w1 from⟨Fr.refl _ _, [],none,none,none,0,0,0,k7,WdR.nil _,rfl,lrq _,⟨fun b e=>by simp at e,fun b e=>by simp at e,fun b e=>by simp at e⟩⟩)
 have HW1:=hdq hw1
 have HLIM:=hdq hlim
 have z1:nv+na≤9223372036854775807:=by omega
 have z2:nv+na+mk≤9223372036854775807:=by omega
 clear hx hm hw1 hf1 k3 k4 k6 k7 hlim
 go_enter Tryz.func154,Tryz.ntmps154
 go_wp2_with fail
 rw[←HW1.out]
 go_loopw [8] (fun i wr=>∃k:Nat,k≤m∧i= .int .i64 k∧Hid (UpW w1 (w.heap.size+1+1+1) lim ws k wr)) (fun i _=>m - (intOf i).toNat)
 case atStart=>exact⟨0,Nat.zero_le _,rfl,HU0⟩
 case round=>
  clear HU0
  obtain⟨k,hk,rfl,hb⟩:=hrel
  obtain⟨hfr,acc,A1,A2,A3,c1,c2,c3,hk7,hwd,hacc,hlen,hab⟩:=hb.out
  have hk4:=HK4.out.fr hfr (by omega)
  have x0:=hk4.cell 0
  have x1:=hk4.cell 1
  have x2:=hk4.cell 2
  have xl:=hk4.lt
  have hk3:=HK3.out.fr hfr (by omega)
  have y0:=hk3.cell 0
  have y1:=hk3.cell 1
  have yl:=hk3.lt
  have u0:=hk7.cell 0
  have u1:=hk7.cell 1
  have u2:=hk7.cell 2
  have ul:=hk7.lt
  simp only[getsL]at x0 x1 x2 y0 y1 u0 u1 u2
  have HFR:=hdq hfr
  have HK7:=hdq hk7
  have HWD:=hdq hwd
  have HACC:=hdq hacc
  have HLEN:=hdq hlen
  have HAB:=hdq hab
  clear hb hfr hk7 hwd hacc hlen hk4 hk3 hab
  by_cases hlt:k < m
  ·obtain⟨⟨a0,a1,a2⟩,ar,hd⟩:=drop_head1 (show k < ws.length from by rw[←HM.out];exact hlt)
   have hbk:=Fr.back0 HF1.out (HFR.out.mono fun b _ e=>by have e:b=w.heap.size+1+1+1:=e;show w.heap.size≤b;omega)
   have hold:∀ {xs:List Value} {b c:Nat},RwR w xs (some ⟨b,0,none⟩) c→0 < xs.length→b < w.heap.size:=fun h h0=>by obtain⟨b',e,hb,_⟩:=h.2.2 h0;simp only[Option.some.injEq,Addr.mk.injEq,and_true]at e;omega
   obtain⟨bn,rfl,hbn,hcn⟩:=(HX.out.names.keep hbk).2.2 (by simp;rw[←HM.out];omega)
   obtain⟨bk,rfl,hbk2,hck⟩:=(HX.out.kinds.keep hbk).2.2 (by simp;rw[←HM.out];omega)
   obtain⟨bm,rfl,hbm,hcm⟩:=(HX.out.many.keep hbk).2.2 (by simp;rw[←HM.out];omega)
   have hbn0:=hold HX.out.names (by simp;rw[←HM.out];omega)
   have hbk0:=hold HX.out.kinds (by simp;rw[←HM.out];omega)
   have hbm0:=hold HX.out.many (by simp;rw[←HM.out];omega)
   have d0:=hcn k (.string a0) (by rw[List.getElem?_map,get_drop0 hd.1];rfl)
   have d1:=hck k (.int .i64 a1) (by rw[List.getElem?_map,get_drop0 hd.1];rfl)
   have d2:=hcm k (.int .i64 a2) (by rw[List.getElem?_map,get_drop0 hd.1];rfl)
   have hlt':(k:Int) < (m:Int):=by omega
   have hge:(0:Int)≤(k:Int):=by omega
   have hst:=HACC.out
   rw[hd.1,upI_cons,←hd.2]at hst
   simp only at hst
   have hsel:((a1=3∧¬(k:Int) < lim)∨(a1≠3∨(k:Int) < lim)):=by by_cases h:a1≠3∨(k:Int) < lim;exact .inr h;exact .inl (by omega)
   rcases hsel with⟨h3,hk3⟩|hsel
   ·rw[if_neg (by omega)]at hst
    have HN:=hdq (show UpW w1 (w.heap.size+1+1+1) lim ws (k+1) wr from⟨HFR.out,acc,A1,A2,A3,c1,c2,c3,HK7.out,HWD.out,hst,Nat.le_succ_of_le HLEN.out,HAB.out⟩)
    have e1:(a1 != 3)=false:=by simpa using h3
    have e2:decide ((k:Int) < (nv:Int)+na+mk)=false:=by rw[←HLIM.out];simpa using hk3
    clear hd hbk hcn hck hcm hst h3 hk3
    go_wp2_with fail
    go_roundw
    case rel=>exact⟨k+1,by omega,by go_num,HN⟩
    case measure=>simp[intOf];omega
   ·rw[if_pos hsel]at hst
    have HST:=hdq hst
    have h7:=rwith_any acc a0 a1 a2 wr.drew A1 A2 A3 c1 c2 c3 (HWD.out.keep (Fr.refl NoT wr).drew) (by have:=HLEN.out;omega)
    unfold WithP wdV at h7
    have H7:=hdq h7
    have hcase:(a1 != 3)=true∨((a1 != 3)=false∧decide ((k:Int) < (nv:Int)+na+mk)=true):=by
     rw[←HLIM.out]
     by_cases h:a1=3
     ·exact .inr ⟨by simpa using h,by simpa using hsel.resolve_left (fun h2=>h2 h)⟩
     ·exact .inl (by simpa using h)
    clear hd hbk hcn hck hcm hst hsel h7
    have nx:¬(w.heap.size+1=w.heap.size+1+1+1):=by omega
    have nn:¬(bn=w.heap.size+1+1+1):=by omega
    have nk:¬(bk=w.heap.size+1+1+1):=by omega
    have nm:¬(bm=w.heap.size+1+1+1):=by omega
    rcases hcase with e1|⟨e1,e2⟩
    all_goals
     go_wp2_with fail
     refine wp_region_still_tail 16 (by kernel_rfl) (by kernel_rfl) ?_
     simp only[List.take_succ_cons,List.take_zero,List.drop_succ_cons,List.drop_zero]
     repeat still_step
     try refine wpStill_nil ?_
     go_wp2_with fail
     refine H7.out.mono ?_
     rintro _ w5 ⟨g1,g2,g3,e1',e2',e3',rfl,hwd5,hg,hf⟩
     have hf5:=(Fr.refl NoT wr).drew.trans hf
     have hk75:=HK7.out.fr0 hf5
     have q0:=hk75.cell 0
     have q1:=hk75.cell 1
     have q2:=hk75.cell 2
     have r0:=hk75.frozen 0
     have r1:=hk75.frozen 1
     have r2:=hk75.frozen 2
     have ql:=hk75.lt
     simp only[getsL]at q0 q1 q2
     have HW5:=hdq hwd5
     have HG5:=hdq hg
     have HF5:=hdq hf5
     have HK75:=hdq hk75
     clear hwd5 hg hf hf5 hk75
     all_goals
      have hT:=Fr.own (Fr.own (Fr.own (g:=w.heap.size+1+1+1) (Fr.refl _ w5) 0 (.slice (some ⟨g1,0,none⟩) (acc++ [(a0,a1,a2)]).length e1')) 1 (.slice (some ⟨g2,0,none⟩) (acc++ [(a0,a1,a2)]).length e2')) 2 (.slice (some ⟨g3,0,none⟩) (acc++ [(a0,a1,a2)]).length e3')
      have hU:=Fr.own (Fr.own (Fr.own (HFR.out.trans HF5.out.any) 0 (.slice (some ⟨g1,0,none⟩) (acc++ [(a0,a1,a2)]).length e1')) 1 (.slice (some ⟨g2,0,none⟩) (acc++ [(a0,a1,a2)]).length e2')) 2 (.slice (some ⟨g3,0,none⟩) (acc++ [(a0,a1,a2)]).length e3')
      have hk7F:=((HK75.out.set_ 0 (.slice (some ⟨g1,0,none⟩) (acc++ [(a0,a1,a2)]).length e1')).set_ 1 (.slice (some ⟨g2,0,none⟩) (acc++ [(a0,a1,a2)]).length e2')).set_ 2 (.slice (some ⟨g3,0,none⟩) (acc++ [(a0,a1,a2)]).length e3')
      simp only[List.setIfInBounds_toArray,List.set_cons_zero,List.set_cons_succ]at hk7F
      have hab:Above (w.heap.size+1+1+1) (some ⟨g1,0,none⟩) (some ⟨g2,0,none⟩) (some ⟨g3,0,none⟩):=by
       obtain⟨h1,h2,h3⟩:=HG5.out
       have h1:wr.heap.size≤g1:=h1
       have h2:wr.heap.size≤g2:=h2
       have h3:wr.heap.size≤g3:=h3
       refine⟨fun b e=>?_,fun b e=>?_,fun b e=>?_⟩<;>(simp only[Option.some.injEq,Addr.mk.injEq,and_true]at e;omega)
      have hlen2:(acc++ [(a0,a1,a2)]).length ≤k+1:=by have:=HLEN.out;simp;omega
      have hN:=(UpW.mk (lim:=lim) (ws:=ws) (k:=k+1) hU ⟨acc++ [(a0,a1,a2)],_,_,_,_,_,_,hk7F,HW5.out.keepA hab hT (fun b e=>by have e:b=w.heap.size+1+1+1:=e;omega),by rw[List.append_assoc];exact HST.out,hlen2,hab⟩)
      rw[show(acc++ [(a0,a1,a2)]).length =acc.length+1 from by simp]at hN
      have HN:=hdq hN
      clear hT hU hk7F hab hlen2 hN
      go_wp2_with fail
      go_roundw
      case rel=>exact⟨k+1,by omega,by go_num,HN⟩
      case measure=>simp[intOf];omega
  ·have hlt':¬(k:Int) < (m:Int):=by omega
   have he:acc=upI lim ws 0:=by
    have:=HACC.out
    rw[List.drop_eq_nil_of_le (by rw[←HM.out];omega)]at this
    simpa[upI]using this
   have hk6:=HK6.out.fr HFR.out (by omega)
   have t0:=hk6.cell 0
   have t1:=hk6.cell 1
   have t2:=hk6.cell 2
   have f0:=hk6.frozen 0
   have f1:=hk6.frozen 1
   have f2:=hk6.frozen 2
   have tl:=hk6.lt
   simp only[getsL]at t0 t1 t2
   have k6F:=((hk6.set_ 0 (.slice A1 acc.length c1)).set_ 1 (.slice A2 acc.length c2)).set_ 2 (.slice A3 acc.length c3)
   simp only[List.setIfInBounds_toArray,List.set_cons_zero,List.set_cons_succ]at k6F
   have hT:Fr (fun b=>b=w.heap.size+1+1) wr (((wr.setCell ⟨w.heap.size+1+1,0,none⟩ (.slice A1 acc.length c1)).setCell ⟨w.heap.size+1+1,1,none⟩ (.slice A2 acc.length c2)).setCell ⟨w.heap.size+1+1,2,none⟩ (.slice A3 acc.length c3)):=
    Fr.own (Fr.own (Fr.own (Fr.refl _ _) 0 _) 1 _) 2 _
   have HW2:=hdq (HWD.out.keepA HAB.out hT (fun b e=>by omega))
   have HFF:=hdq (show Fr NoT w (((wr.setCell ⟨w.heap.size+1+1,0,none⟩ (.slice A1 acc.length c1)).setCell ⟨w.heap.size+1+1,1,none⟩ (.slice A2 acc.length c2)).setCell ⟨w.heap.size+1+1,2,none⟩ (.slice A3 acc.length c3))from
    Fr.high (Fr.high (Fr.high (Fr.back0 HF1.out (HFR.out.mono fun b _ e=>by have e:b=w.heap.size+1+1+1:=e;show w.heap.size≤b;omega)) (by omega) _ _) (by omega) _ _) (by omega) _ _)
   have HK6F:=hdq k6F
   have HE:=hdq he
   clear hk6 k6F hT he
   go_wp2_with fail
   refine bodyPost_ret (results_cell_row (p:=6) (ty:=164) rfl _ _ (w.heap.size+1+1) 164 _ (0,0) _ rfl HK6F.out Tryz.underlying164 rfl infoWd) rfl ⟨A1,A2,A3,c1,c2,c3,?_,?_,HFF.out⟩
   ·rw[←HE.out];rfl
   ·rw[←HE.out];exact HW2.out
end Go.Proofs.YtmopichdofgndaaGreatDoor
