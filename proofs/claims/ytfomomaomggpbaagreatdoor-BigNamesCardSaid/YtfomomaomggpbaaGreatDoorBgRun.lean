/-
  big.Run: THE CONTRACT. Printed by wip/gen_in/reg.py.
-/
import Derived.Test.YtfomomaomggpbaaGreatDoorJgBgOk
import Derived.Test.YtfomomaomggpbaaGreatDoorBgCat
set_option linter.unusedVariables false
set_option linter.unusedSimpArgs false
namespace Go.Proofs.YtfomomaomggpbaaGreatDoor
open Go.RowKit Go.Shelf

def bigE (t:Tre) (n:Nat) (steps:Int):Int:=if(treeC t).2 =0 then(if 4096 < n then 4 else if steps < 0∨65536 < steps then 2 else 0)else(treeC t).2
def bs0 (t:Tre) (script:List Int) (steps:Int):Bs:=⟨zers t.vars.length,begB (t.arrays.map (·.size)),script,steps.toNat, []⟩
def hoD (h:Option Ho):Ho:=h.getD ⟨1,0,0⟩
def zeroC:Array Value:= #[.int .u8 0,.int .u8 0,.int .i64 0,.int .i64 0,.int .i64 0,.int .i64 0,.slice none 0 0,.slice none 0 0]
def BigP (t:Tre) (script:List Int) (steps:Int) (h:Option Ho) (u:Bs) (W:World) (e:Ending) (w':World):Prop:=
 Fr NoT W w'∧if bigE t script.length steps=0 then ∃V A c bs,e= .returned (.tuple #[.agg (bgEndC (hoD h).kind (hoD h).wrong (hoD h).at_ (.int .i64 0) (.int .i64 0) (.int .i64 u.left) (.slice (some ⟨V,0,none⟩) u.vs.length u.vs.length) (.slice A u.ls.length c)),.int .i64 0])∧Sto w' W.heap.size u.vs u.ls V A c bs
  else e= .returned (.tuple #[.agg zeroC,.int .i64 (bigE t script.length steps)])
theorem run_leaves {X:World} {b:Nat} {c0 c1 c2 c3 c4 c5 c6 c7 er:Value} {R:Ending→World→Prop} {x0 x1 x2 x3 x4 x5:Value} {rest:List Value} (h:Bk X b 34 #[c0,c1,c2,c3,c4,c5,c6,c7]) (hR:R (.returned (.tuple #[.agg #[c0,c1,c2,c3,c4,c5,c6,c7],er])) X):
  Leaves Tryz.prog Tryz.f9 (List.toArray (x0::x1::x2::x3::x4::x5:: .pointer (some ⟨b,0,none⟩)::er::rest)) R [] .returning X:=by
 have k0:=h.cell 0
 have k1:=h.cell 1
 have k2:=h.cell 2
 have k3:=h.cell 3
 have k4:=h.cell 4
 have k5:=h.cell 5
 have k6:=h.cell 6
 have k7:=h.cell 7
 have hl:=h.lt
 simp only[getsL]at k0 k1 k2 k3 k4 k5 k6 k7
 refine⟨_,?_,hR⟩
 simp[results,Tryz.results9,go_sem,k0,k1,k2,k3,k4,k5,k6,k7,hl]
def NoPan (Q:Exit→Act→World→Prop):Exit→Act→World→Prop
 | .panic _,_,_=>False
 | .normal,a,w=>Q .normal a w
 |e,a,w=>Q e a w
theorem wp_region_N {P:Program} {Q:Exit→Act→World→Prop} {id:Nat} {l:List Oper} {a:Act} {w:World} (S:World→Prop) (n:Nat→Bool) (hm:P.follows .mixedOrders =true) (hS:S w.drew) (h:S w.drew→wpE P .any l.toArray (NoPan Q) S n l.length (Array.replicate l.length false) a w.drew):(Code.region id l.toArray true).wp P Q a w:=
 Code.wp_mono (fun e a w he=>by cases e<;>first|exact he.elim|exact he) (wp_region_E S n hm hS h)
def A2S (b P MA:Nat) (nm:ByteArray) (n:Nat) (W:World):Prop:=W.cell? ⟨P,1,none⟩=some (.map (some MA))∧W.cell? ⟨b,0,none⟩=some (.string nm)∧W.cell? ⟨b,1,none⟩=some (.int .i64 n)
def A3S (b r R P MA:Nat) (nm:ByteArray) (v u:Value) (W:World):Prop:=W.cell? ⟨r,0,none⟩=some (.pointer (some ⟨R,0,none⟩))∧W.cell? ⟨R,8,none⟩=some v∧W.cell? ⟨P,1,none⟩=some (.map (some MA))∧W.cell? ⟨b,0,none⟩=some (.string nm)∧(Instr.lookup 70 (.map (some MA)) (.string nm) false).run Tryz.prog W= .ok u W
def A4S (b P MP:Nat) (nm:ByteArray) (v1 v2:Value) (W:World):Prop:=W.cell? ⟨P,2,none⟩=some (.map (some MP))∧W.cell? ⟨b,0,none⟩=some (.string nm)∧W.cell? ⟨b,1,none⟩=some v1∧W.cell? ⟨b,2,none⟩=some v2
def N1S (b r R V nv:Nat) (nm:ByteArray) (W:World):Prop:=W.cell? ⟨b,0,none⟩=some (.string nm)∧W.cell? ⟨r,0,none⟩=some (.pointer (some ⟨R,0,none⟩))∧W.cell? ⟨R,7,none⟩=some (.slice (some ⟨V,0,none⟩) nv nv)
set_option maxRecDepth 100000 in
set_option maxHeartbeats 3200000 in
theorem run_of (t:Tre) (script:List Int) (steps:Int) (h:Option Ho) (u:Bs) (W:World) (S:Nat→Prop) (Z:Prop) (Av Aa Ap Am As:Option Addr) (cv ca cp cm cs:Nat) (he:SpEnv W) (hS:∀b,S b→b < W.heap.size) (hsz:SzT t) (hx:TrR W S Z t Av Aa Ap Am cv ca cp cm) (hsc:IsSl W W.heap.size script As cs) (h64:in64 steps)
  (hrun:bigE t script.length steps=0→RunT (bnOf t) (.all [] t.main) (bs0 t script steps) h u):
  Calls Tryz.prog 9 #[trV t Av Aa Ap Am cv ca cp cm,.slice As script.length cs,.int .i64 steps] W (BigP t script steps h u W):=by
 have hmf:= @makeF Tryz.prog
 have hmm:=run_makeMap (P:=Tryz.prog)
 obtain⟨w1,hw1⟩:=nmq ((W.alloc (.cells #[.slice Av t.vars.length cv,.slice Aa t.arrays.length ca,.slice Ap t.procs.length cp,.slice Am t.main.len cm] 27)).alloc (.cells zeroC 34))
 have hf1:Fr NoT W w1:=by rw[hw1];exact((Fr.refl _ _).alloc _).alloc _
 have hk3:Bk w1 W.heap.size 27 #[.slice Av t.vars.length cv,.slice Aa t.arrays.length ca,.slice Ap t.procs.length cp,.slice Am t.main.len cm]:=by rw[hw1];exact(Bk.new _ _ _).alloc _
 have hk6:Bk w1 (W.heap.size+1) 34 zeroC:=by rw[hw1];exact Bk.new_at _ _ _ (by simp)
 have hct:=ctree_any t w1 S Z Av Aa Ap Am cv ca cp cm (he.keep hf1.plain) (fun b hb=>ltq (hS b hb) hf1.size) hsz (hx.keep (hf1.same fun b hb=>⟨hS b hb,id⟩))
 obtain⟨nv,hnv⟩:=nmq t.vars.length
 obtain⟨na,hna⟩:=nmq t.arrays.length
 obtain⟨np,hnp⟩:=nmq t.procs.length
 obtain⟨nm,hnm⟩:=nmq t.main.len
 obtain⟨ns,hns⟩:=nmq script.length
 unfold trV at hct ⊢
 rw[←hnv,←hna,←hnp,←hnm]at hw1 hk3 hct ⊢
 rw[←hns]at hrun
 obtain⟨E,hEq⟩:=nmq (bigE t ns steps)
 obtain⟨RR,hRR⟩:=nmq (BigP t script steps h u W)
 rw[←hRR,←hns]
 have hEq2:=hEq
 unfold bigE at hEq
 obtain⟨q1,q2,hq⟩:∃a b,treeC t=(a,b):=⟨_,_,rfl⟩
 have HW1:=hdq hw1
 have HF1:=hdq hf1
 have HK3:=hdq hk3
 have HK6:=hdq hk6
 have HTC:=hdq hq
 rw[hq]at hEq hct
 have HCT:=hdq hct
 have HEQ:=hdq hEq
 have HNS:=hdq hns
 have HNV:=hdq hnv
 have HNA:=hdq hna
 have HNP:=hdq hnp
 have HNM:=hdq hnm
 have HX:=hdq (aiq hx (aiq hS (aiq hsz (aiq hsc h64))))
 have HRUN:=hdq hrun
 have HNO:=hdq (show ∀w',Fr NoT W w'→E≠0→RR (.returned (.tuple #[.agg zeroC,.int .i64 E])) w' from fun w' hf hne=>by
  rw[hRR]
  refine⟨hf,?_⟩
  rw[←hns,←hEq2,if_neg hne])
 have HRR:=hdq hRR
 have HE0:=hdq hEq2
 have hns1:ns≤9223372036854775807:=by rw[hns];exact leq9 hsc.1 hsc.2.1
 have hnv1:nv≤9223372036854775807:=by rw[hnv];exact leq9 hx.vars.1 hx.vars.2.1.1
 have k0:=hk3.cell 0
 have k1:=hk3.cell 1
 have k2:=hk3.cell 2
 have k3:=hk3.cell 3
 have kl:=hk3.lt
 simp only[getsL]at k0 k1 k2 k3
 clear hw1 hf1 hk3 hk6 hct hEq hns hnv hna hnp hnm hx hS hsz hsc h64 hrun hEq2 he hq hRR
 go_enter_defers Tryz.func9,Tryz.ntmps9
 go_wp2_with fail
 have hw1:=HW1.out
 unfold zeroC at hw1
 rw[←hw1]
 clear hw1
 refine HCT.out.mono ?_
 rintro _ w2 ⟨rfl,hf2⟩
 have HF2:=hdq (HF1.out.trans hf2)
 have hk6:=HK6.out.fr0 hf2
 have hk3:=HK3.out.fr0 hf2
 have HK62:=hdq hk6
 have HK32:=hdq hk3
 have z0:=hk6.cell 0
 have z1:=hk6.cell 1
 have z2:=hk6.cell 2
 have z3:=hk6.cell 3
 have z4:=hk6.cell 4
 have z5:=hk6.cell 5
 have z6:=hk6.cell 6
 have z7:=hk6.cell 7
 have y0:=hk6.frozen 0
 have y1:=hk6.frozen 1
 have y2:=hk6.frozen 2
 have y3:=hk6.frozen 3
 have y4:=hk6.frozen 4
 have y5:=hk6.frozen 5
 have y6:=hk6.frozen 6
 have y7:=hk6.frozen 7
 have zl:=hk6.lt
 simp only[zeroC,List.getElem?_toArray,List.getElem?_cons_succ,List.getElem?_cons_zero]at z0 z1 z2 z3 z4 z5 z6 z7
 clear hk6 hk3 k0 k1 k2 k3 kl
 have HZ6:=hdq (show ∀w,Bk w (W.heap.size+1) 34 zeroC→Bk ((((((((w.setCell ⟨W.heap.size+1,0,none⟩ (.int .u8 0)).setCell ⟨W.heap.size+1,1,none⟩ (.int .u8 0)).setCell ⟨W.heap.size+1,2,none⟩ (.int .i64 0)).setCell ⟨W.heap.size+1,3,none⟩ (.int .i64 0)).setCell ⟨W.heap.size+1,4,none⟩ (.int .i64 0)).setCell ⟨W.heap.size+1,5,none⟩ (.int .i64 0)).setCell ⟨W.heap.size+1,6,none⟩ (.slice none 0 0)).setCell ⟨W.heap.size+1,7,none⟩ (.slice none 0 0)) (W.heap.size+1) 34 zeroC from fun w hk=>by
  have:=(((((((hk.set_ 0 (.int .u8 0)).set_ 1 (.int .u8 0)).set_ 2 (.int .i64 0)).set_ 3 (.int .i64 0)).set_ 4 (.int .i64 0)).set_ 5 (.int .i64 0)).set_ 6 (.slice none 0 0)).set_ 7 (.slice none 0 0)
  simpa[zeroC]using this)
 by_cases e2:q2=0
 rotate_left
 ·have e1:(q2 != 0)=true:=by simpa using e2
  have hE:E=q2:=by rw[HEQ.out];simp only[if_neg e2]
  clear e2
  go_wp2_with fail
  have hr:=HNO.out w2 HF2.out (by rw[hE];simpa using e1)
  rw[hE]at hr
  exact run_leaves HK62.out hr
 subst e2
 have hE:E=if 4096 < ns then 4 else if steps < 0∨65536 < steps then 2 else 0:=by rw[HEQ.out,if_pos rfl]
 have e1:((0:Int) != 0)=false:=by decide
 by_cases hbig:4096 < ns
 ·have e3:decide ((ns:Int) > 4096)=true:=by simp;omega
  rw[if_pos hbig]at hE
  clear hbig
  go_wp2_with fail
  have hr:=HNO.out _ ((((((((HF2.out.high (Nat.le_succ _) 0 (.int .u8 0)).high (Nat.le_succ _) 1 (.int .u8 0)).high (Nat.le_succ _) 2 (.int .i64 0)).high (Nat.le_succ _) 3 (.int .i64 0)).high (Nat.le_succ _) 4 (.int .i64 0)).high (Nat.le_succ _) 5 (.int .i64 0)).high (Nat.le_succ _) 6 (.slice none 0 0)).high (Nat.le_succ _) 7 (.slice none 0 0)) (by rw[hE];decide)
  rw[hE]at hr
  exact run_leaves (HZ6.out w2 HK62.out) hr
 have e3:decide ((ns:Int) > 4096)=false:=by simp;omega
 rw[if_neg hbig]at hE
 by_cases hlow:steps < 0
 ·have e4:decide (steps < 0)=true:=by simpa using hlow
  rw[if_pos (.inl hlow)]at hE
  clear hlow
  go_wp2_with fail
  have hr:=HNO.out _ ((((((((HF2.out.high (Nat.le_succ _) 0 (.int .u8 0)).high (Nat.le_succ _) 1 (.int .u8 0)).high (Nat.le_succ _) 2 (.int .i64 0)).high (Nat.le_succ _) 3 (.int .i64 0)).high (Nat.le_succ _) 4 (.int .i64 0)).high (Nat.le_succ _) 5 (.int .i64 0)).high (Nat.le_succ _) 6 (.slice none 0 0)).high (Nat.le_succ _) 7 (.slice none 0 0)) (by rw[hE];decide)
  rw[hE]at hr
  exact run_leaves (HZ6.out w2 HK62.out) hr
 have e4:decide (steps < 0)=false:=by simpa using hlow
 by_cases hhi:65536 < steps
 ·have e5:decide (steps > 65536)=true:=by simpa using hhi
  rw[if_pos (.inr hhi)]at hE
  go_wp2_with fail
  have hr:=HNO.out _ ((((((((HF2.out.high (Nat.le_succ _) 0 (.int .u8 0)).high (Nat.le_succ _) 1 (.int .u8 0)).high (Nat.le_succ _) 2 (.int .i64 0)).high (Nat.le_succ _) 3 (.int .i64 0)).high (Nat.le_succ _) 4 (.int .i64 0)).high (Nat.le_succ _) 5 (.int .i64 0)).high (Nat.le_succ _) 6 (.slice none 0 0)).high (Nat.le_succ _) 7 (.slice none 0 0)) (by rw[hE];decide)
  rw[hE]at hr
  exact run_leaves (HZ6.out w2 HK62.out) hr
 have e5:decide (steps > 65536)=false:=by simpa using hhi
 rw[if_neg (fun e=>e.elim hlow hhi)]at hE
 obtain⟨st,rfl⟩:∃n:Nat,steps=n:=⟨steps.toNat,by omega⟩
 have hst:st≤65536:=by omega
 have hok:OkT t:=treeC_no (by rw[HTC.out])
 have hnv12:nv≤12:=by rw[HNV.out];exact(fewT_iff.1 hok.few).1
 have hmk:=fun w=>bgRun_mkB nv (by omega) w
 have kk0:=HK32.out.cell 0
 have kkl:=HK32.out.lt
 simp only[getsL]at kk0
 have HOK:=hdq hok
 have HEE:=hdq hE
 have HST:=hdq hst
 clear hE hlow hhi hbig hok hst z0 z1 z2 z3 z4 z5 z6 z7 y0 y1 y2 y3 y4 y5 y6 y7
 obtain⟨w3,hw3⟩:=nmq ((((((((w2.alloc (.cells (intL (zers nv)).toArray 3)).alloc (.cells #[.slice As ns cs,.int .u8 0,.int .u8 0,.int .i64 0,.int .i64 0,.int .i64 0,.int .i64 st,.slice (some ⟨w2.heap.size,0,none⟩) nv nv,.slice none 0 0] 68)).alloc (.cells #[.pointer (some ⟨w2.heap.size+1,0,none⟩)] 66)).alloc (.map #[] 0)).alloc (.map #[] 0)).alloc (.cells #[.pointer (some ⟨w2.heap.size+1,0,none⟩),.map (some (w2.heap.size+1+1+1)),.map (some (w2.heap.size+1+1+1+1))] 73)).alloc (.map #[] 0)))
 have hf3:Fr NoT w2 w3:=by rw[hw3];exact(((((((Fr.refl _ _).alloc _).alloc _).alloc _).alloc _).alloc _).alloc _).alloc _
 have kb:=(HK32.out.fr0 hf3).cell 0
 simp only[getsL]at kb
 obtain⟨hV3,hR3,hr3,hA3,hM3,hP3,hN3,hs3⟩:Bk w3 w2.heap.size 3 (intL (zers nv)).toArray ∧Bk w3 (w2.heap.size+1) 68 (run0V (.slice As ns cs) (.int .i64 st) (.slice (some ⟨w2.heap.size,0,none⟩) nv nv) (.slice none 0 0))∧Bk w3 (w2.heap.size+2) 66 #[.pointer (some ⟨w2.heap.size+1,0,none⟩)]∧MpV w3 (w2.heap.size+3) 0 (fun _=>none)∧MpV w3 (w2.heap.size+4) 0 (fun _=>none)∧Bk w3 (w2.heap.size+5) 73 #[.pointer (some ⟨w2.heap.size+1,0,none⟩),.map (some (w2.heap.size+3)),.map (some (w2.heap.size+4))]∧MpV w3 (w2.heap.size+6) 0 (fun _=>none)∧w3.heap.size=w2.heap.size+7:=by
  have mk:=fun(w:World) (k:Nat) (e:w.heap.size=k)=>(e▸MpV.made w:MpV (w.alloc (.map #[] 0)) k 0 fun _=>none)
  have up:∀ {w:World} {b:Nat} {o:Obj},MpV w b 0 (fun _=>none)→MpV (w.alloc o) b 0 (fun _=>none):=fun h=>h.fr (T:=NoT) ((Fr.refl _ _).alloc _) id
  rw[hw3]
  refine⟨(((((((Bk.new _ _ _).alloc _).alloc _).alloc _).alloc _).alloc _).alloc _),((((((Bk.new_at _ _ _ (by simp)).alloc _).alloc _).alloc _).alloc _).alloc _),(((((Bk.new_at _ _ _ (by simp)).alloc _).alloc _).alloc _).alloc _),up (up (up (mk _ _ (by simp)))),up (up (mk _ _ (by simp))),(Bk.new_at _ _ _ (by simp)).alloc _,mk _ _ (by simp),by simp⟩
 have HW3:=hdq hw3
 have HF3:=hdq hf3
 rw[hw3]at kb
 clear hw3 hf3
 go_wp2_with fail
 rw[←HW3.out]
 obtain⟨V,eV⟩:∃y,w2.heap.size=y:=⟨_,rfl⟩
 obtain⟨R,eR⟩:∃y,w2.heap.size+1=y:=⟨_,rfl⟩
 obtain⟨r,er⟩:∃y,w2.heap.size+2=y:=⟨_,rfl⟩
 obtain⟨MA,eMA⟩:∃y,w2.heap.size+3=y:=⟨_,rfl⟩
 obtain⟨MP,eMP⟩:∃y,w2.heap.size+4=y:=⟨_,rfl⟩
 obtain⟨P,eP⟩:∃y,w2.heap.size+5=y:=⟨_,rfl⟩
 obtain⟨N,eN⟩:∃y,w2.heap.size+6=y:=⟨_,rfl⟩
 rw[eR]at hR3 hr3 hP3
 rw[er]at hr3
 rw[eMA]at hA3 hP3
 rw[eMP]at hM3 hP3
 rw[eP]at hP3
 rw[eN]at hN3
 rw[eV]at hV3 hR3 hs3
 rw[eR,show R+1=r by omega,show r+1=MA by omega,show MA+1=MP by omega,show MP+1=P by omega,show P+1=N by omega,eV]
 have hWV:W.heap.size+2≤V:=by have h1:=HK62.out.lt;omega
 have hT3:∀wr T,Fr T w3 wr→(∀b,T b→W.heap.size≤b)→TrR wr S Z t Av Aa Ap Am cv ca cp cm:=fun wr T hf hT=>
  (HX.out.1.keep ((HF2.out.trans HF3.out).same fun b hb=>⟨HX.out.2.1 b hb,id⟩)).keep (hf.same fun b hb=>⟨ltq (HX.out.2.1 b hb) (HF2.out.trans HF3.out).size,fun e=>Nat.lt_irrefl _ (ltq (HX.out.2.1 b hb) (hT b e))⟩)
 have HT3:=hdq hT3
 obtain⟨nms,hnms⟩:=nmq (nmV t.vars)
 have hnd:nms.Nodup:=by rw[hnms];exact(freshL_iff.1 HOK.out.vars).2
 have hnl:nms.length=nv:=by rw[hnms,HNV.out];simp[nmV]
 have hord:W.heap.size+2≤V∧R=V+1∧r=V+2∧MA=V+3∧MP=V+4∧P=V+5∧N=V+6∧w3.heap.size=V+7:=by omega
 have HMS:=hdq hnms
 have HND:=hdq (aiq hnd hnl)
 have HORD:=hdq hord
 have HV3:=hdq hV3
 have HR3:=hdq hR3
 have Hr3:=hdq hr3
 have HA3:=hdq hA3
 have HM3:=hdq hM3
 have HP3:=hdq hP3
 have HN3:=hdq hN3
 clear hT3 hnms hnd hnl hord hV3 hR3 hr3 hA3 hM3 hP3 hN3 hs3 eV eR er eMA eMP eP eN kb kk0 kkl hWV e1 e3 e4 e5
 go_loopw [56] (fun i wr=>∃k:Nat,k≤nv∧i= .int .i64 k∧Hid (Fr (fun b=>b=N) w3 wr)∧Hid (MpV wr N k (fA (ptrL V k) (nms.take k)))) (fun i _=>nv - (intOf i).toNat)
 case atStart=>exact⟨0,Nat.zero_le _,rfl,hdq (Fr.refl _ _),hdq HN3.out⟩
 case round=>
  obtain⟨k,hk,rfl,HF,HM⟩:=hrel
  have hNe:∀b,b < N→¬b=N:=fun b hb e=>by omega
  by_cases hlt:k < nv
  ·have hlp:k < t.vars.length:=by rw[←HNV.out];exact hlt
   obtain⟨b0,o0,rfl,hat⟩:=(HT3.out wr _ HF.out (fun b e=>by have e:b=N:=e;have:=HORD.out;omega)).vars.2.2 (by omega)
   have hdp:=List.drop_eq_getElem_cons hlp
   obtain⟨⟨pn,pa⟩,hpx⟩:=nmq (t.vars[k])
   rw[←hpx]at hdp
   have hat1:=VaR.drop k hat
   rw[hdp]at hat1
   obtain⟨⟨_,_,_,g0,g1⟩,_⟩:=hat1
   simp only at g0 g1
   have hpnm:pn.size≤9223372036854775807:=by
    have:=HX.out.2.2.1.vars _ (List.getElem_mem hlp)
    rw[←hpx]at this
    exact this
   have hnk:nms[k]?=some pn.data.toList:=by
    rw[HMS.out]
    unfold nmV
    rw[List.getElem?_map,List.getElem?_eq_getElem hlp,←hpx]
    rfl
   have hlt':(k:Int) < (nv:Int):=by omega
   obtain⟨w4,hw4⟩:=nmq (wr.alloc (.cells #[.string pn,.int .i64 pa] 77))
   have hf4:Fr NoT wr w4:=by rw[hw4];exact(Fr.refl _ _).alloc _
   have hk4:Bk w4 wr.heap.size 77 #[.string pn,.int .i64 pa]:=by rw[hw4];exact Bk.new _ _ _
   have hor:=HORD.out
   have HS4:=hdq (show N1S wr.heap.size r R V nv pn w4.drew from
    ⟨(hk4.fr0 (Fr.refl NoT w4).drew).cell 0,((Hr3.out.fr HF.out (hNe _ (by omega))).fr0 hf4.drew).cell 0,((HR3.out.fr HF.out (hNe _ (by omega))).fr0 hf4.drew).cell 7⟩)
   obtain⟨w5,hput,hm5,hg5⟩:=MpV.put (HM.out.fr hf4.drew id) Tryz.underlying75 (s:=pn) hpnm (.pointer (some ⟨V,k,none⟩)) (by unfold maxLen;omega)
   have hm5':MpV w5 N (k+1) (fA (ptrL V (k+1)) (nms.take (k+1))):=by
    have hkn:k < nms.length:=by rw[HND.out.2];exact hlt
    have htn:nms.take (k+1)=nms.take k++ [pn.data.toList]:=by rw[List.take_add_one,hnk];rfl
    have hx:pn.data.toList∉nms.take k:=fun hm=>by
     have h1:=HND.out.1
     rw[←List.take_append_drop (k+1) nms,htn]at h1
     exact(List.nodup_append.1 (List.nodup_append.1 h1).1).2.2 _ hm _ List.mem_cons_self rfl
    rw[ptrL_succ,htn,←fA_snoc (by rw[ptrL_len,List.length_take];omega) hx]
    exact hm5
   have HM5:=hdq hm5'
   have HF5:=hdq (show Fr (fun b=>b=N) w3 w5 from(HF.out.trans hf4.drew.any).trans (Fr.grown hg5 fun g e _=>(Option.some.inj e).symm))
   have HW4:=hdq hw4
   clear hlp hat hdp hpx hpnm hnk hw4 hf4 hk4 hor hm5 hg5 hm5' HM HF HN3
   go_wp2_with fail
   rw[←HW4.out]
   refine wp_region_N (N1S wr.heap.size r R V nv pn) (fun i=>decide (i < 11)) (by kernel_rfl) HS4.out (fun hHeld=>?_)
   refine wpE_pu 0 ?_
   try simp only[putsL]
   refine wpE_pu 1 ?_
   try simp only[putsL]
   refine wpE_take 2 (v:=?_) rfl (by kernel_rfl) (fun _ _ _ h=>h) hHeld (by rfl) ?_ ?_;rotate_left
   ·intro wz hSz;(try dsimp only[A2S,A3S,A4S,N1S]at hSz);go_simp;try with_reducible rfl
   try simp only[putsL]
   refine wpE_take 3 (v:=?_) rfl (by kernel_rfl) (fun _ _ _ h=>h) hHeld (by rfl) ?_ ?_;rotate_left
   ·intro wz hSz;(try dsimp only[A2S,A3S,A4S,N1S]at hSz);go_simp;try with_reducible rfl
   try simp only[putsL]
   refine wpE_pu 4 ?_
   try simp only[putsL]
   refine wpE_pu 5 ?_
   try simp only[putsL]
   refine wpE_pu 6 ?_
   try simp only[putsL]
   refine wpE_pu 7 ?_
   try simp only[putsL]
   refine wpE_take 8 (v:=?_) rfl (by kernel_rfl) (fun _ _ _ h=>h) hHeld (by rfl) ?_ ?_;rotate_left
   ·intro wz hSz;(try dsimp only[A2S,A3S,A4S,N1S]at hSz);go_simp;try with_reducible rfl
   try simp only[putsL]
   refine wpE_pu 9 ?_
   try simp only[putsL]
   refine wpE_pu 10 ?_
   try simp only[putsL]
   refine wpE_next 11 rfl (by kernel_rfl) (fun KK hK=>?_)
   go_simp
   refine hK _ _ (fun h=>absurd h (by decide)) ?_
   clear hK KK
   try simp only[putsL]
   refine wpE_done (by kernel_rfl) ?_
   unfold NoPan
   clear hHeld g0 g1
   go_wp2_with fail
   go_roundw
   case rel=>exact⟨k+1,by omega,by go_num,HF5,HM5⟩
   case measure=>simp[intOf];omega
  ·have hkn:k=nv:=by omega
   have hge:¬(k:Int) < (nv:Int):=by omega
   obtain⟨wn,hwn⟩:=nmq wr
   have hmn:MpV wn N nv (fA (ptrL V nv) nms):=by rw[hwn,←hkn];have:=HM.out;rw[List.take_of_length_le (by rw[HND.out.2];omega)]at this;exact this
   have hfn:Fr (fun b=>b=N) w3 wn:=by rw[hwn];exact HF.out
   rw[←hwn]
   have HMN:=hdq hmn
   have HFN:=hdq hfn
   have hor:=HORD.out
   have hrn:=hdq ((Hr3.out.fr hfn (hNe _ (by omega))))
   have hRn:=hdq ((HR3.out.fr hfn (hNe _ (by omega))))
   have hPn:=hdq ((HP3.out.fr hfn (hNe _ (by omega))))
   have hAn:=hdq ((HA3.out.fr hfn (hNe _ (by omega))))
   have hMn:=hdq ((HM3.out.fr hfn (hNe _ (by omega))))
   have hVn:=hdq ((HV3.out.fr hfn (hNe _ (by omega))))
   have hk3n:=(HK32.out.fr0 HF3.out).fr hfn (hNe _ (by omega))
   have hk6n:=(HK62.out.fr0 HF3.out).fr hfn (hNe _ (by have:=HK62.out.lt;have:=HF3.out.size;have:=HF1.out.size;omega))
   have kb1:=hk3n.cell 1
   have kb1l:=hk3n.lt
   simp only[getsL]at kb1
   have HK3N:=hdq hk3n
   have HK6N:=hdq hk6n
   have hszn:w3.heap.size≤wn.heap.size:=hfn.size
   have HSZN:=hdq hszn
   clear hkn hwn hmn hfn HM HF HN3 hk HA3 HR3 HP3 Hr3 HM3 HV3 hk3n hk6n hszn
   obtain⟨ans,hans⟩:=nmq (nmA t.arrays)
   obtain⟨zs,hzs⟩:=nmq (t.arrays.map (·.size))
   have HAN:=hdq (show ans.Nodup∧ans.length=na∧zs.length=na∧ans=nmA t.arrays∧zs=t.arrays.map (·.size)from⟨by rw[hans];exact(freshL_iff.1 HOK.out.arrays).2,by rw[hans,HNA.out];simp[nmA],by rw[hzs,HNA.out];simp,hans,hzs⟩)
   have hna4:na≤4:=by rw[HNA.out];exact(fewT_iff.1 HOK.out.few).2.1
   clear hans hzs hNe hor
   go_wp2_with fail
   go_loopw [76] (fun i wr=>∃(k:Nat) (v:Value) (bs:List Nat),k≤na∧i= .int .i64 k∧Hid (BgA wn R MA (.slice As ns cs) (.int .i64 st) (.slice (some ⟨V,0,none⟩) nv nv) ans zs v wr bs k)) (fun i _=>na - (intOf i).toNat)
   case atStart=>
    refine⟨0,.slice none 0 0, [],Nat.zero_le _,rfl,hdq ⟨Fr.refl _ _,hRn.out,World.ownsRow_nil _ _ _ _,?_,rfl,fun i b l hi=>by simp at hi,List.nodup_nil,fun b hb=>by simp at hb,fun b hb=>by simp at hb⟩⟩
    exact hAn.out
   case round=>
    clear hAn hRn kb1 kb1l
    obtain⟨k,v,bs,hk,rfl,HB⟩:=hrel
    by_cases hlt:k < na
    ·have hlp:k < t.arrays.length:=by rw[←HNA.out];exact hlt
     have hfr:Fr (fun b=>b=N∨b=R∨b=MA) w3 wr:=(HFN.out.mono fun _ _ e=> .inl e).trans (HB.out.fr.mono fun _ _ e=> .inr e)
     obtain⟨b0,o0,rfl,hat⟩:=(HT3.out wr _ hfr (fun b e=>by have:=HORD.out;omega)).arrays.2.2 (by omega)
     have hdp:=List.drop_eq_getElem_cons hlp
     obtain⟨⟨pn,pz,pa⟩,hpx⟩:=nmq (t.arrays[k])
     rw[←hpx]at hdp
     have hat1:=ArR.drop k hat
     rw[hdp]at hat1
     obtain⟨⟨_,_,_,_,g0,g1,g2⟩,_⟩:=hat1
     simp only at g0 g1 g2
     have hpnm:pn.size≤9223372036854775807:=by
      have:=HX.out.2.2.1.arrays _ (List.getElem_mem hlp)
      rw[←hpx]at this
      exact this
     have hps:1≤pz∧pz≤16:=by
      have:=HOK.out.sizes _ (List.getElem_mem hlp)
      rw[←hpx]at this
      exact this
     obtain⟨n,rfl⟩:∃n:Nat,pz=n:=⟨pz.toNat,by omega⟩
     have hnk:ans[k]?=some pn.data.toList:=by
      rw[HAN.out.2.2.2.1]
      unfold nmA
      rw[List.getElem?_map,List.getElem?_eq_getElem hlp,←hpx]
      rfl
     have hzk:zs[k]?=some (n:Int):=by
      rw[HAN.out.2.2.2.2,List.getElem?_map,List.getElem?_eq_getElem hlp,←hpx]
      rfl
     have hxn:pn.data.toList∉ans.take k:=fun hm=>by
      have h1:=HAN.out.1
      have htn:ans.take (k+1)=ans.take k++ [pn.data.toList]:=by rw[List.take_add_one,hnk];rfl
      rw[←List.take_append_drop (k+1) ans,htn]at h1
      exact(List.nodup_append.1 (List.nodup_append.1 h1).1).2.2 _ hm _ List.mem_cons_self rfl
     have hlt':(k:Int) < (na:Int):=by omega
     obtain⟨w4,hw4⟩:=nmq (wr.alloc (.cells #[.string pn,.int .i64 n,.int .i64 pa] 61))
     have hf4:Fr NoT wr w4:=by rw[hw4];exact(Fr.refl _ _).alloc _
     have hk4:Bk w4 wr.heap.size 61 #[.string pn,.int .i64 n,.int .i64 pa]:=by rw[hw4];exact Bk.new _ _ _
     have hor:=HORD.out
     have hRMA:∀b,b < R→¬(b=R∨b=MA):=fun b hb e=>by omega
     have hNRM:∀b,MA < b→¬(b=R∨b=MA):=fun b hb e=>by omega
     have hrM:¬(r=R∨r=MA):=by omega
     have HrM:=hdq hrM
     have HNRM:=hdq hNRM
     have HS4:=hdq (show ∀w,Fr NoT w4 w→A2S wr.heap.size P MA pn n w from fun w hf=>
      ⟨((hPn.out.fr HB.out.fr (hNRM _ (by omega))).fr0 (hf4.trans hf)).cell 1,(hk4.fr0 hf).cell 0,(hk4.fr0 hf).cell 1⟩)
     have hmk2:=fun w=>bgRun_mkB n (by omega) w
     obtain⟨w5,hw5⟩:=nmq ((w4.alloc (.cells (intL (zers n)).toArray 3)).drew )
     have hf5:Fr NoT w4 w5:=by rw[hw5];exact((Fr.refl NoT w4).alloc _).drew
     obtain⟨w6,hput,hm6,hg6⟩:=MpV.put ((HB.out.map.fr hf4 id).fr hf5 id) Tryz.underlying70 (s:=pn) hpnm (slL w4.heap.size n) (by unfold maxLen;omega)
     have hk6:Bk w6 wr.heap.size 61 #[.string pn,.int .i64 n,.int .i64 pa]:=((hk4.fr0 hf5).fr (Fr.grown (T:=fun b=>b=MA) hg6 fun g e _=>(Option.some.inj e).symm) (fun e=>by have e:wr.heap.size=MA:=e;have:=HB.out.fr.size;have:=HSZN.out;omega))
     have hf46:Fr (fun b=>b=MA) w4 w6:=hf5.any.trans (Fr.grown hg6 fun g e _=>(Option.some.inj e).symm)
     have HF46:=hdq hf46
     have hvl:∀b,v.ownBlock=some b→wn.heap.size≤b∧b < wr.heap.size:=fun b hb=>HB.out.row.lt b hb
     have hwn:=HSZN.out
     have hwnr:=HB.out.fr.size
     have hlook:∀w,Fr (fun b=>v.ownBlock=some b) w6 w→(Instr.lookup 70 (.map (some MA)) (.string pn) false).run Tryz.prog w= .ok (.slice (some ⟨w4.heap.size,0,none⟩) n n) w:=fun w hf=>by
      have h9:=MpV.get (hm6.fr hf (fun e=>by have:=hvl _ e;omega)) Tryz.underlying70 (s:=pn) hpnm (z:= .slice none 0 0) (by kernel_rfl)
      rw[if_pos rfl]at h9
      exact h9
     have HS6:=hdq (show ∀w,Fr (fun b=>v.ownBlock=some b) w6 w→A3S wr.heap.size r R P MA pn v (.slice (some ⟨w4.heap.size,0,none⟩) n n) w from fun w hf=>
      ⟨((((hrn.out.fr HB.out.fr hrM).fr0 hf4).fr hf46 (by omega)).fr hf (fun e=>by have:=hvl _ e;omega)).cell 0,(((HB.out.bk.fr0 hf4).fr hf46 (by omega)).fr hf (fun e=>by have:=hvl _ e;omega)).cell 8,((((hPn.out.fr HB.out.fr (hNRM _ (by omega))).fr0 hf4).fr hf46 (by omega)).fr hf (fun e=>by have:=hvl _ e;omega)).cell 1,(hk6.fr hf (fun e=>by have:=hvl _ e;omega)).cell 0,hlook w hf⟩)
     have HG6:=hdq (show(w4.drew.alloc (.cells (intL (zers n)).toArray 3)).grownBy w6 (some MA) by rw[hw5]at hg6;exact hg6)
     have HM6:=hdq hm6
     have HW4:=hdq hw4
     have HW5:=hdq hw5
     have HK:=hdq (aiq hzk (aiq hnk hxn))
     have HF4:=hdq hf4
     have HW44:=hdq (show w4.drew.heap.size=w4.heap.size from rfl)
     unfold slL at hput
     rw[hw5]at hput
     clear hlp hfr hat hdp hpx hpnm hnk hzk hxn hw4 hf4 hk4 hm6 hg6 hk6 hf46 hf5 hw5 hlook hRMA hNRM hrM hor hvl hwn hwnr
     go_wp2_with fail
     rw[←HW4.out]
     refine wp_region_N (A2S wr.heap.size P MA pn n) (fun i=>decide (i < 9)) (by kernel_rfl) (HS4.out _ (Fr.refl NoT w4).drew) (fun hHeld=>?_)
     refine wpE_pu 0 ?_
     try simp only[putsL]
     refine wpE_pu 1 ?_
     try simp only[putsL]
     refine wpE_pu 2 ?_
     try simp only[putsL]
     refine wpE_take 3 (v:=?_) rfl (by kernel_rfl) (fun _ _ _ h=>h) hHeld (by rfl) ?_ ?_;rotate_left
     ·intro wz hSz;(try dsimp only[A2S,A3S,A4S,N1S]at hSz);go_simp;try with_reducible rfl
     try simp only[putsL]
     refine wpE_pu 4 ?_
     try simp only[putsL]
     refine wpE_take 5 (v:=?_) rfl (by kernel_rfl) (fun _ _ _ h=>h) hHeld (by rfl) ?_ ?_;rotate_left
     ·intro wz hSz;(try dsimp only[A2S,A3S,A4S,N1S]at hSz);go_simp;try with_reducible rfl
     try simp only[putsL]
     refine wpE_pu 6 ?_
     try simp only[putsL]
     refine wpE_take 7 (v:=?_) rfl (by kernel_rfl) (fun _ _ _ h=>h) hHeld (by rfl) ?_ ?_;rotate_left
     ·intro wz hSz;(try dsimp only[A2S,A3S,A4S,N1S]at hSz);go_simp;try with_reducible rfl
     try simp only[putsL]
     refine wpE_next 8 rfl (by kernel_rfl) (fun KK hK=>?_)
     go_simp
     refine hK _ _ (fun _ _=>HS4.out _ ((Fr.refl NoT w4).alloc _).drew) ?_
     clear hK KK
     try simp only[putsL]
     refine wpE_next 9 rfl (by kernel_rfl) (fun KK hK=>?_)
     go_simp
     refine hK _ _ (fun h=>absurd h (by decide)) ?_
     clear hK KK
     try simp only[putsL]
     refine wpE_done (by kernel_rfl) ?_
     unfold NoPan
     clear hHeld g0 g1 g2 hput hmk2
     go_wp2_with fail
     obtain⟨iS,hiS,hzS,hsS,hbS⟩:=info_parts infoSlB
     have HIS:=hdq (aiq hiS (aiq hzS (aiq hsS hbS)))
     clear hiS hzS hsS hbS
     have hs6:=HS6.out w6.drew (Fr.refl _ w6).drew
     refine wp_region_N (A3S wr.heap.size r R P MA pn v (.slice (some ⟨w4.heap.size,0,none⟩) n n)) (fun i=>decide (i < 16)) (by kernel_rfl) hs6 (fun hHeld=>?_)
     clear hs6
     refine wpE_take 0 (v:=?_) rfl (by kernel_rfl) (fun _ _ _ h=>h) hHeld (by rfl) ?_ ?_;rotate_left
     ·intro wz hSz;(try dsimp only[A2S,A3S,A4S,N1S]at hSz);go_simp;try with_reducible rfl
     try simp only[putsL]
     refine wpE_take 1 (v:=?_) rfl (by kernel_rfl) (fun _ _ _ h=>h) hHeld (by rfl) ?_ ?_;rotate_left
     ·intro wz hSz;(try dsimp only[A2S,A3S,A4S,N1S]at hSz);go_simp;try with_reducible rfl
     try simp only[putsL]
     refine wpE_pu 2 ?_
     try simp only[putsL]
     refine wpE_pu 3 ?_
     try simp only[putsL]
     refine wpE_pu 4 ?_
     try simp only[putsL]
     refine wpE_pu 5 ?_
     try simp only[putsL]
     refine wpE_take 6 (v:=?_) rfl (by kernel_rfl) (fun _ _ _ h=>h) hHeld (by rfl) ?_ ?_;rotate_left
     ·intro wz hSz;(try dsimp only[A2S,A3S,A4S,N1S]at hSz);go_simp;try with_reducible rfl
     try simp only[putsL]
     refine wpE_pu 7 ?_
     try simp only[putsL]
     refine wpE_pu 8 ?_
     try simp only[putsL]
     refine wpE_pu 9 ?_
     try simp only[putsL]
     refine wpE_take 10 (v:=?_) rfl (by kernel_rfl) (fun _ _ _ h=>h) hHeld (by rfl) ?_ ?_;rotate_left
     ·intro wz hSz;(try dsimp only[A2S,A3S,A4S,N1S]at hSz);go_simp;try with_reducible rfl
     try simp only[putsL]
     refine wpE_pu 11 ?_
     try simp only[putsL]
     refine wpE_take 12 (v:=?_) rfl (by kernel_rfl) (fun _ _ _ h=>h) hHeld (by rfl) ?_ ?_;rotate_left
     ·intro wz hSz;(try dsimp only[A2S,A3S,A4S,N1S]at hSz);go_simp;try with_reducible rfl
     try simp only[putsL]
     refine wpE_take 13 (v:=?_) rfl (by kernel_rfl) (fun _ _ _ h=>h) hHeld (by rfl) ?_ ?_;rotate_left
     ·intro wz hSz;(try dsimp only[A2S,A3S,A4S,N1S]at hSz);go_simp;try with_reducible rfl
     try simp only[putsL]
     refine wpE_next 14 rfl (by kernel_rfl) (fun KK hK=>?_)
     go_simp
     obtain⟨w7,hw7⟩:=nmq ((w6.alloc (.cells #[slL w4.heap.size n] 28)).drew )
     have hw7':=hw7
     unfold slL at hw7'
     rw[←hw7']
     have hf7:Fr NoT w6 w7:=by rw[hw7];exact((Fr.refl _ _).alloc _).drew
     have hk7:Bk w7 w6.heap.size 28 #[slL w4.heap.size n]:=by rw[hw7];exact(Bk.new _ _ _).fr0 (Fr.refl NoT _).drew
     have HSZ7:=hdq (show w7.heap.size=w6.heap.size+1 by rw[hw7];simp)
     have HF7:=hdq hf7
     have HK7:=hdq hk7
     clear hw7 hw7' hf7 hk7
     try dsimp only
     refine hK _ _ (fun _ _=>HS6.out _ HF7.out.any) ?_
     clear hK KK
     try simp only[putsL]
     refine wpE_next 15 rfl (by kernel_rfl) (fun KK hK=>?_)
     have hf67:Fr (fun b=>b=MA) wr w7:=(HF4.out.any.trans HF46.out).trans HF7.out.any
     have hrow7:w7.ownsRow wn.heap.size 28 1 v k (rowL bs (begB (zs.take k))):=by
      refine⟨HB.out.row.1,HB.out.row.2.imp id ?_⟩
      rintro⟨g',cap',cur,e1,e2,e3,e4⟩
      refine⟨g',cap',cur,e1,e2,(hf67.block g' (HB.out.row.lt g' (by rw[e1];rfl)).2 (fun e=>?_)).trans e3,e4⟩
      have e:g'=MA:=e
      have h1:=(HB.out.row.lt g' (by rw[e1];rfl)).1
      have h2:=HSZN.out
      have h3:=HORD.out
      omega
     have hlen7:(rowL bs (begB (zs.take k))).length =k:=by
      have h1:=HAN.out.2.2.1
      unfold begB
      rw[rowL_len (by rw[HB.out.len,List.length_map,List.length_take];omega),List.length_map,List.length_take]
      omega
     refine step_append_lies _ (by rfl) _ _ _ (by rfl) wn.heap.size 28 iS (.slice none 0 0) 1 24 Tryz.underlying30 HIS.out.1 HIS.out.2.1 HIS.out.2.2.1 HIS.out.2.2.2 rfl (by decide) v k _ (by rfl) hrow7
      ⟨w6.heap.size,0,none⟩ 1 1 [slL w4.heap.size n] (by rfl) (by rfl) HK7.out.newsK (by simp[slL,Value.oneCell']) (by omega) ?c63 ?cby ?cba w7.heap.size rfl ?_
     case c63=>unfold maxLen;omega
     case cby=>omega
     case cba=>have h1:=HFN.out.size;have h2:=HB.out.fr.size;have:=hf67.size;omega
     intro gg cap w8 hown hgrow hsp hlt8
     have hst:=HB.out.step (by have:=HORD.out;have:=HSZN.out;omega) (by have:=HORD.out;have:=HSZN.out;omega) (by have:=HORD.out;omega) HK.out.1 HK.out.2.1 HK.out.2.2 HF4.out.drew HG6.out HM6.out HF7.out hown hgrow hsp
     have hvl:∀b,v.ownBlock=some b→wn.heap.size≤b∧b < wr.heap.size:=fun b hb=>HB.out.row.lt b hb
     have hf8:Fr (fun b=>v.ownBlock=some b) w7 w8:=Fr.grown hgrow fun g e _=>e
     have hRr:R < wn.heap.size:=by have:=HORD.out;have:=HSZN.out;omega
     have hk8:=(HB.out.bk.fr hf67 (by have:=HORD.out;omega)).fr hf8 (fun e=>by have:=hvl _ e;omega)
     have c8:=hk8.cell 8
     have f8:=hk8.frozen 8
     have l8:=hk8.lt
     have HST:=hdq hst
     have HS8:=hdq (HS6.out w8 (HF7.out.any.trans hf8))
     simp only[run0V,List.getElem?_toArray,List.getElem?_cons_succ,List.getElem?_cons_zero]at c8
     clear hf67 hrow7 hlen7 hown hgrow hsp hlt8 hst hvl hf8 hRr hk8 hHeld
     try dsimp only
     refine hK _ _ (fun _ _=>HS8.out) ?_
     clear hK KK
     try simp only[putsL]
     refine wpE_pu 16 ?_
     try simp only[putsL]
     refine wpE_pu 17 ?_
     try simp only[putsL]
     refine wpE_pu 18 ?_
     try simp only[putsL]
     refine wpE_pu 19 ?_
     try simp only[putsL]
     refine wpE_next 20 rfl (by kernel_rfl) (fun KK hK=>?_)
     go_simp
     refine hK _ _ (fun h=>absurd h (by decide)) ?_
     clear hK KK
     try simp only[putsL]
     refine wpE_done (by kernel_rfl) ?_
     unfold NoPan
     clear c8 f8 l8
     go_wp2_with fail
     go_roundw
     case rel=>exact⟨k+1,_,_,by omega,by go_num,HST⟩
     case measure=>simp[intOf];omega
    ·have hkn:k=na:=by omega
     have hge:¬(k:Int) < (na:Int):=by omega
     have hor:=HORD.out
     have hwn:=HSZN.out
     have hb:=HB.out
     obtain⟨wc,hwc⟩:=nmq wr
     rw[←hwc]at hb ⊢
     rw[hkn,HAN.out.2.2.2.1,HAN.out.2.2.2.2,HNA.out,HNS.out,HNV.out]at hb
     have hVb:=hVn.out
     rw[HNV.out]at hVb
     have hfr:Fr (fun b=>W.heap.size≤b) W wc:=((HF2.out.trans HF3.out).any.trans (HFN.out.mono fun b _ e=>by have e:b=N:=e;show W.heap.size≤b;omega)).trans (hb.fr.mono fun b _ e=>by have e:b=R∨b=MA:=e;show W.heap.size≤b;omega)
     obtain⟨A,c,rfl,hset⟩:=BgA.sets (V:=V) (P:=P) (MP:=MP) (B:=W.heap.size) HOK.out hb (by omega) (by omega) (by omega) (by omega) (by omega) (by omega) (by omega) (by omega) (by omega) HST.out (HX.out.2.2.2.1.keep fun p hp=>hfr.cell hp (by omega)) hVb hPn.out
     have hk3c:=HK3N.out.fr hb.fr (by omega)
     have hk6c:=HK6N.out.fr hb.fr (fun e=>by have e:W.heap.size+1=R∨W.heap.size+1=MA:=e;have:=HK62.out.lt;have:=HF3.out.size;have:=HF1.out.size;have:=HF2.out.size;omega)
     have HRC:=hdq (hrn.out.fr hb.fr (by omega))
     have HPC:=hdq (hPn.out.fr hb.fr (by omega))
     have HMC:=hdq (hMn.out.fr hb.fr (by omega))
     have HNC:=hdq (HMN.out.fr hb.fr (by omega))
     have HFC:=hdq ((HFN.out.mono (T':=fun b=>b=N∨b=R∨b=MA) fun _ _ e=> .inl e).trans (hb.fr.mono fun _ _ e=> .inr e))
     have kc2:=hk3c.cell 2
     have kc2l:=hk3c.lt
     simp only[getsL]at kc2
     have HK3C:=hdq hk3c
     have HK6C:=hdq hk6c
     have HSET:=hdq hset
     have HSC:=hdq (show wn.heap.size≤wc.heap.size∧(∀n b,(Value.slice A n c).ownBlock =some b→wn.heap.size≤b)∧∀b∈bs,wn.heap.size≤b from⟨hb.fr.size,fun n b hb'=>(hb.row.lt b (by cases A<;>exact hb')).1,fun b hb'=>by
      obtain⟨i,hi⟩:=List.mem_iff_getElem?.1 hb'
      have hl:i < t.arrays.length:=by rw[←hb.len];exact(List.getElem?_eq_some_iff.1 hi).1
      exact(hb.each i b _ hi (begB_at (List.getElem?_eq_getElem hl))).1⟩)
     clear hkn hor hwn hb hwc hVb hfr hset hk3c hk6c HB hk HK3N HK6N hPn hMn hrn hVn HMN
     have hnp8:np≤8:=by rw[HNP.out];exact(fewT_iff.1 HOK.out.few).2.2
     obtain⟨wfp,wfm⟩:=wf_tree HOK.out HX.out.2.2.1
     have HWF:=hdq wfp
     have HWM:=hdq wfm
     clear wfp wfm
     go_wp2_with fail
     go_loopw [113] (fun i wr=>∃(k T:Nat) (f:List UInt8→Option Value),k≤np∧i= .int .i64 k∧Hid (wc.heap.size≤T∧T≤wr.heap.size)∧Hid (Fr (fun b=>b=MP) wc wr)∧Hid (PrF (bgC t W.heap.size wc.heap.size R V P MA MP A c bs) T (kdL (t.procs.take k)) f k wr)) (fun i _=>np - (intOf i).toNat)
     case atStart=>
      exact⟨0,wc.heap.size,fun _=>none,Nat.zero_le _,rfl,hdq ⟨lrq _,lrq _⟩,hdq (Fr.refl _ _),hdq ⟨HMC.out,fun nm p hk=>by obtain⟨x,hx,_⟩:=hk;simp at hx⟩⟩
     case round=>
      clear kc2 kc2l HMC
      obtain⟨k,T,f,hk,rfl,HT,HF,HP⟩:=hrel
      by_cases hlt:k < np
      ·have hlp:k < t.procs.length:=by rw[←HNP.out];exact hlt
       have hor:=HORD.out
       have hfr:Fr (fun b=>b=N∨b=R∨b=MA∨b=MP) w3 wr:=(HFC.out.mono fun _ _ e=>by omega).trans (HF.out.mono fun _ _ e=> .inr (.inr (.inr e)))
       have hTR:=HT3.out wr _ hfr (fun b e=>by have:=HORD.out;omega)
       obtain⟨b0,o0,rfl,hat⟩:=hTR.procs.2.2 (by omega)
       have hdp:=List.drop_eq_getElem_cons hlp
       obtain⟨x,hpx⟩:=nmq (t.procs[k])
       rw[←hpx]at hdp
       have hat1:=PrR.drop k hat
       rw[hdp]at hat1
       obtain⟨⟨_,_,_,g0,g3⟩,⟨A5,c5,g1,s5⟩,⟨A6,c6,g2,s6⟩,_⟩:=hat1
       have hxm:x∈t.procs:=by rw[hpx];exact List.getElem_mem hlp
       have hxk:t.procs[k]?=some x:=by rw[List.getElem?_eq_getElem hlp,←hpx]
       obtain⟨hpnm,hpar,_⟩:=HX.out.2.2.1.procs x hxm
       obtain⟨wf1,wf2,wf3⟩:=HWF.out k x hxk
       have hpnd:(nmP t.procs).Nodup :=(freshL_iff.1 HOK.out.procs).2
       have hxu:∀p,(bnOf t).procs x.nm.data.toList=some p→p=x:=fun p hp=>by
        have h9:procsOf t.procs x.nm.data.toList=some x:=procsOf_mem hpnd hxm
        exact Option.some.inj (hp.symm.trans h9)
       have hfresh:¬kdL (t.procs.take k) x.nm.data.toList:=fun hm=>by
        obtain⟨y,hy,e⟩:=hm
        have htn:(nmP t.procs).take (k+1)=(t.procs.take k).map (·.nm.data.toList)++ [x.nm.data.toList]:=by
         unfold nmP
         rw[←List.map_take,List.take_add_one,hxk]
         simp
        have h1:=hpnd
        rw[←List.take_append_drop (k+1) (nmP t.procs),htn]at h1
        exact(List.nodup_append.1 (List.nodup_append.1 h1).1).2.2 y.nm.data.toList (List.mem_map.2 ⟨y,hy,rfl⟩) _ List.mem_cons_self e.symm
       have hkd:kdL (t.procs.take (k+1))=fun y=>kdL (t.procs.take k) y∨y=x.nm.data.toList:=by
        funext y
        rw[List.take_add_one,hxk]
        apply propext
        unfold kdL
        simp only[Option.toList_some,List.mem_append,List.mem_singleton]
        constructor
        ·rintro⟨z,hz|rfl,e⟩
         ·exact .inl ⟨z,hz,e⟩
         ·exact .inr e
        ·rintro(⟨z,hz,e⟩|e)
         ·exact⟨z,.inl hz,e⟩
         ·exact⟨x,.inr rfl,e⟩
       have hlt':(k:Int) < (np:Int):=by omega
       obtain⟨l5,hl5⟩:=nmq x.params.length
       obtain⟨l6,hl6⟩:=nmq x.body.len
       obtain⟨pn,hpn⟩:=nmq x.nm
       obtain⟨pa,hpa⟩:=nmq x.at_
       obtain⟨w4,hw4⟩:=nmq (wr.alloc (.cells #[.string pn,.slice A5 l5 c5,.slice A6 l6 c6,.int .i64 pa] 63))
       have hf4:Fr NoT wr w4:=by rw[hw4];exact(Fr.refl _ _).alloc _
       have hk4:Bk w4 wr.heap.size 63 #[.string pn,.slice A5 l5 c5,.slice A6 l6 c6,.int .i64 pa]:=by rw[hw4];exact Bk.new _ _ _
       have hwcr:=HF.out.size
       have hBW:W.heap.size≤wr.heap.size:=by have:=HSC.out.1;have:=HSZN.out;omega
       have hss:∀w,Fr NoT w4 w→SameS S wr w:=fun w hf=>(hf4.trans hf).same fun b hb=>⟨ltq (HX.out.2.1 b hb) hBW,id⟩
       have HS4:=hdq (show ∀w,Fr NoT w4 w→A4S wr.heap.size P MP pn (.slice A5 l5 c5) (.slice A6 l6 c6) w from fun w hf=>
        ⟨((HPC.out.fr HF.out (by omega)).fr0 (hf4.trans hf)).cell 2,(hk4.fr0 hf).cell 0,(hk4.fr0 hf).cell 1,(hk4.fr0 hf).cell 2⟩)
       have hset:=HSET.out w4.drew.heap.size (by have h9:=hf4.drew.size;omega)
       have hset0:=HSET.out wc.heap.size (lrq _)
       have hp4:=HP.out.up (T2:=w4.drew.heap.size) HT.out.2 hBW (by show W.heap.size≤MP;omega) hf4.drew (leq9 HT.out.2 hf4.drew.size) (lrq _)
       have hpg:PgAt (bgC t W.heap.size w4.drew.heap.size R V P MA MP A c bs) w4.drew:=(hset0.2.1.later hset0.1 (Later.of (lo:=0) (hi:=0) ((HF.out.mono fun b _ e=> .inr (.inr (.inr e))).trans hf4.drew.any) (Nat.zero_le _) (lrq _))).to (C:=(bgC t W.heap.size wc.heap.size R V P MA MP A c bs)) (T:=wc.heap.size) (leq9 hwcr hf4.drew.size)
       have HCALL:=hdq (show Calls Tryz.prog 23 #[.pointer (some ⟨P,0,none⟩),.slice A6 l6 c6] w4.drew (MkD (bgC t W.heap.size w4.drew.heap.size R V P MA MP A c bs) (x.params.map (·.nm.data.toList)) (RunT (bnOf t) (.all (x.params.map (·.nm.data.toList)) x.body)) w4.drew) by
        rw[hl6]
        exact bgAll_any (bgC t W.heap.size w4.drew.heap.size R V P MA MP A c bs) _ _ hset.1 x.body wf1 w4.drew S Z A6 c6 (lrq _) hpg hp4.at_ HX.out.2.1 (s6.imp fun _ _ hx=>StR.keep (hss _ (Fr.refl NoT w4).drew) hx))
       have HVR:=hdq (show ∀w,Fr NoT w4 w→SlR (VaR w S Z x.params) x.params.length 24 A5 c5 from fun w hf=>s5.imp fun _ _ hx=>VaR.keep (hss w hf) hx)
       have HPX:=hdq (show x.nm.size≤9223372036854775807∧(∀y∈x.params,y.nm.size≤9223372036854775807)∧(x.params.map (·.nm.data.toList)).Nodup ∧(∀nm∈x.params.map (·.nm.data.toList),posI (bnOf t).vars nm=none)from⟨hpnm,hpar,wf2,wf3⟩)
       have HXU:=hdq hxu
       have HFRE:=hdq hfresh
       have HKD:=hdq hkd
       have HP4:=hdq hp4
       have HW4:=hdq hw4
       have HF4:=hdq hf4
       have HPN:=hdq (aiq hpn (aiq hl5 (aiq hl6 hpa)))
       have HBW:=hdq hBW
       have HMPW:=hdq (show W.heap.size≤MP by omega)
       rw[←hpn]at g0
       rw[←hpa]at g3
       rw[←hl5]at g1
       rw[←hl6]at g2
       clear hlp hfr hTR hat hdp hpx s5 s6 hxm hxk hpnm hpar wf1 wf2 wf3 hpnd hxu hfresh hkd hl5 hl6 hpn hpa hw4 hf4 hk4 hor hwcr hBW hss hset hset0 hp4 hpg
       go_wp2_with fail
       rw[←HW4.out]
       refine wp_region_N (A4S wr.heap.size P MP pn (.slice A5 l5 c5) (.slice A6 l6 c6)) (fun i=>decide (i < 13)) (by kernel_rfl) (HS4.out _ (Fr.refl NoT w4).drew) (fun hHeld=>?_)
       refine wpE_pu 0 ?_
       try simp only[putsL]
       refine wpE_pu 1 ?_
       try simp only[putsL]
       refine wpE_pu 2 ?_
       try simp only[putsL]
       refine wpE_take 3 (v:=?_) rfl (by kernel_rfl) (fun _ _ _ h=>h) hHeld (by rfl) ?_ ?_;rotate_left
       ·intro wz hSz;(try dsimp only[A2S,A3S,A4S,N1S]at hSz);go_simp;try with_reducible rfl
       try simp only[putsL]
       refine wpE_pu 4 ?_
       try simp only[putsL]
       refine wpE_take 5 (v:=?_) rfl (by kernel_rfl) (fun _ _ _ h=>h) hHeld (by rfl) ?_ ?_;rotate_left
       ·intro wz hSz;(try dsimp only[A2S,A3S,A4S,N1S]at hSz);go_simp;try with_reducible rfl
       try simp only[putsL]
       refine wpE_pu 6 ?_
       try simp only[putsL]
       refine wpE_take 7 (v:=?_) rfl (by kernel_rfl) (fun _ _ _ h=>h) hHeld (by rfl) ?_ ?_;rotate_left
       ·intro wz hSz;(try dsimp only[A2S,A3S,A4S,N1S]at hSz);go_simp;try with_reducible rfl
       try simp only[putsL]
       refine wpE_pu 8 ?_
       try simp only[putsL]
       refine wpE_pu 9 ?_
       try simp only[putsL]
       refine wpE_take 10 (v:=?_) rfl (by kernel_rfl) (fun _ _ _ h=>h) hHeld (by rfl) ?_ ?_;rotate_left
       ·intro wz hSz;(try dsimp only[A2S,A3S,A4S,N1S]at hSz);go_simp;try with_reducible rfl
       try simp only[putsL]
       refine wpE_next 11 rfl (by kernel_rfl) (fun KK hK=>?_)
       go_simp
       go_at_call 23
       refine HCALL.out.mono ?_
       rintro _ w5 ⟨vb,rfl,hf5,hd5⟩
       obtain⟨gg,cps,rfl⟩:=hd5.func
       have HF5:=hdq hf5
       have HD5:=hdq hd5
       clear hf5 hd5
       try dsimp only
       refine hK _ _ (fun _ _=>HS4.out _ ((Fr.refl NoT w4).drew.trans HF5.out)) ?_
       clear hK KK
       try simp only[putsL]
       refine wpE_pu 12 ?_
       try simp only[putsL]
       obtain⟨w6,hput,hm6,hg6⟩:=MpV.put ((show MpV w4.drew MP k f from HP4.out.1).fr HF5.out id) Tryz.underlying71 (s:=pn) (by rw[HPN.out.1];exact HPX.out.1) (.agg #[.slice A5 l5 c5,.func (.func gg) #[] cps]) (by unfold maxLen;omega)
       have hst:PrF (bgC t W.heap.size wc.heap.size R V P MA MP A c bs) w5.heap.size (fun y=>kdL (t.procs.take k) y∨y=x.nm.data.toList) _ (k+1) w6:=HP4.out.step (lrq _) (leq9 HBW.out HF4.out.drew.size) HMPW.out HF5.out HXU.out HD5.out (HVR.out w5 ((Fr.refl NoT w4).drew.trans HF5.out)) HX.out.2.1 HPX.out.2.1 HPX.out.2.2.1 HPX.out.2.2.2 hg6 (by rw[←HPN.out.1,←HPN.out.2.1];exact hm6) HFRE.out
       rw[←HKD.out]at hst
       have HST6:=hdq hst
       have HF6:=hdq (show Fr (fun b=>b=MP) wc w6 from HF.out.trans (((HF4.out.drew.trans HF5.out).any).trans (Fr.grown hg6 fun g e _=>(Option.some.inj e).symm)))
       have HT6:=hdq (show wc.heap.size≤w5.heap.size∧w5.heap.size≤w6.heap.size from⟨leq9 HF.out.size (HF4.out.drew.trans HF5.out).size,hg6.size⟩)
       clear hst hm6 hg6 hHeld
       refine wpE_next 13 rfl (by kernel_rfl) (fun KK hK=>?_)
       go_simp
       refine hK _ _ (fun h=>absurd h (by decide)) ?_
       clear hK KK
       try simp only[putsL]
       refine wpE_done (by kernel_rfl) ?_
       unfold NoPan
       clear g0 g1 g2 g3 hput
       go_wp2_with fail
       go_roundw
       case rel=>exact⟨k+1,_,_,by omega,by go_num,HT6,HF6,HST6⟩
       case measure=>simp[intOf];omega
      ·have hkn:k=np:=by omega
       have hge:¬(k:Int) < (np:Int):=by omega
       have hor:=HORD.out
       have hrc:=HSC.out
       have hwn:=HSZN.out
       obtain⟨wd,hwd⟩:=nmq wr
       have hf:=HF.out
       have hT:=HT.out
       have hp:=HP.out
       rw[hkn,List.take_of_length_le (by rw[HNP.out];exact lrq _)]at hp
       rw[←hwd]at hf hT hp ⊢
       have hBW:W.heap.size≤wd.heap.size:=by have:=hf.size;omega
       have hset:=HSET.out wd.heap.size hf.size
       have hset0:=HSET.out wc.heap.size (lrq _)
       have hp4:=hp.up (T2:=wd.heap.size) hT.2 hBW (by show W.heap.size≤MP;omega) (Fr.refl NoT wd) hT.2 (lrq _)
       have hpg:PgAt (bgC t W.heap.size wd.heap.size R V P MA MP A c bs) wd:=(hset0.2.1.later hset0.1 (Later.of (lo:=0) (hi:=0) (hf.mono fun b _ e=> .inr (.inr (.inr e))) (Nat.zero_le _) (lrq _))).to (C:=bgC t W.heap.size wc.heap.size R V P MA MP A c bs) (T:=wc.heap.size) hf.size
       have hfd:Fr (fun b=>b=N∨b=R∨b=MA∨b=MP) w3 wd:=(HFC.out.mono fun _ _ e=>by omega).trans (hf.mono fun _ _ e=> .inr (.inr (.inr e)))
       have hTR:=HT3.out wd _ hfd (fun b e=>by have:=HORD.out;omega)
       have hmain:=HWM.out
       have hcall:Calls Tryz.prog 23 #[.pointer (some ⟨P,0,none⟩),.slice Am nm cm] wd (MkD (bgC t W.heap.size wd.heap.size R V P MA MP A c bs) [] (RunT (bnOf t) (.all [] t.main)) wd):=by
        rw[HNM.out]
        exact bgAll_any (bgC t W.heap.size wd.heap.size R V P MA MP A c bs) _ _ hset.1 t.main hmain wd S Z Am cm (lrq _) hpg hp4.at_ HX.out.2.1 hTR.main
       have hk3d:=HK3C.out.fr hf (by omega)
       have hk6d:=HK6C.out.fr hf (by omega)
       have hrd:=HRC.out.fr hf (by omega)
       have hNd:=HNC.out.fr hf (by omega)
       have kd3:=hk3d.cell 3
       have kd3l:=hk3d.lt
       simp only[getsL]at kd3
       have hbs:∀b,b < wn.heap.size→b∉bs:=fun b hb hm=>by have:=hrc.2.2 b hm;omega
       have hst0:=hset.2.2.fr hset.1 hf (by show ¬R=MP;omega) (by show ¬V=MP;omega) (fun b hb e=>hbs MP (by omega) (by have e:b=MP:=e;exact e▸hb)) (fun b hb e=>by have h9:=hrc.2.1 _ b hb;have e:b=MP:=e;omega) (fun b hb=>by simp at hb) (fun b hb e=>by have hb:b < W.heap.size:=hb;have e:b=MP:=e;omega)
       have hE0:bigE t ns st=0:=by rw[←HE0.out,HEE.out]
       have hrun:=HRUN.out hE0
       have hgo:∀w5,Fr NoT wd w5→RunAt (bgC t W.heap.size wd.heap.size R V P MA MP A c bs) wd.heap.size w5.heap.size w5 w5 [] [] N (bs0 t script st):=fun w5 hf5=>
        ⟨Later.refl (lrq _) hf5.size,fun b hb=>by simp at hb,hst0.fr0 hset.1 hf5,
         ⟨nv,_,hNd.fr hf5 id,by show nv+(st:Int).toNat ≤1000000;have:=HST.out;omega,fun nm i hi=>by
          unfold fA
          have hi:posI nms nm=some i:=by rw[HMS.out];exact hi
          have hlt9:=posI_lt hi
          rw[hi]
          exact ptrL_at (by rw[←HND.out.2];exact hlt9),fun nm k hk=>by simp[posI]at hk⟩,fun nm k hk=>by simp[posI]at hk,fun e=>by
          rcases e with(e|e|e|e)|e
          ·have e:N=R:=e;omega
          ·have e:N=V:=e;omega
          ·exact hbs N (by omega) e
          ·have e:N=MP:=e;omega
          ·simp at e⟩
       have hmut:∀b,b < wn.heap.size→b≠R→b≠V→b≠MP→¬(bgC t W.heap.size wd.heap.size R V P MA MP A c bs).MutO [] b:=fun b h1 h2 h3 h4 e=>by
        rcases e with(e|e|e|e)|e
        ·exact h2 e
        ·exact h3 e
        ·exact hbs b h1 e
        ·exact h4 e
        ·simp at e
       have hmut2:∀b,(bgC t W.heap.size wd.heap.size R V P MA MP A c bs).MutO [] b→W.heap.size≤b:=fun b e=>by
        rcases e with(e|e|e|e)|e
        ·have e:b=R:=e;omega
        ·have e:b=V:=e;omega
        ·have:=hrc.2.2 b e;omega
        ·have e:b=MP:=e;omega
        ·simp at e
       have hlow:Fr (fun b=>W.heap.size≤b) W wd:=(HF2.out.trans HF3.out).any.trans (hfd.mono fun b _ e=>by have e:b=N∨b=R∨b=MA∨b=MP:=e;show W.heap.size≤b;omega)
       have HFIN:=hdq (show ∀w5 w6 w7,Fr NoT wd w5→Fr ((bgC t W.heap.size wd.heap.size R V P MA MP A c bs).MutO []) w5 w6→BgSt (bgC t W.heap.size wd.heap.size R V P MA MP A c bs) [] u w6→Fr (fun b=>b=W.heap.size+1) w6 w7→BigP t script st h u W (.returned (.tuple #[.agg (bgEndC (hoD h).kind (hoD h).wrong (hoD h).at_ (.int .i64 0) (.int .i64 0) (.int .i64 u.left) (.slice (some ⟨V,0,none⟩) u.vs.length u.vs.length) (.slice A u.ls.length c)),.int .i64 0])) w7 from fun w5 w6 w7 g5 g6 gs g7=>by
        refine⟨((hlow.trans g5.any).trans ((g6.mono fun b _ e=>hmut2 b e).trans (g7.mono fun b _ e=>by have e:b=W.heap.size+1:=e;show W.heap.size≤b;omega))).mono fun b hb e=>by have e:W.heap.size≤b:=e;omega,?_⟩
        rw[←HNS.out,if_pos hE0]
        exact⟨V,A,c,bs,rfl,gs.sto.fr g7 (by show ¬V=W.heap.size+1;omega) (fun b hb e=>by have:=hrc.2.2 b hb;have e:b=W.heap.size+1:=e;omega) fun b hb e=>by have h9:=hrc.2.1 _ b hb;have e:b=W.heap.size+1:=e;omega⟩)
       have HRC9:=hdq (show ∀w5 w6,Fr NoT wd w5→Fr ((bgC t W.heap.size wd.heap.size R V P MA MP A c bs).MutO []) w5 w6→BgSt (bgC t W.heap.size wd.heap.size R V P MA MP A c bs) [] u w6→∃As' cs',bgRcS r R (W.heap.size+1) zeroC (.slice As' u.script.length cs') (.int .u8 0) (.int .u8 0) (.int .i64 0) (.int .i64 0) (.int .i64 0) (.int .i64 u.left) (.slice (some ⟨V,0,none⟩) u.vs.length u.vs.length) (.slice A u.ls.length c) w6 from fun w5 w6 g5 g6 gs=>by
        obtain⟨As',cs',_,hb9⟩:=gs.run
        exact⟨As',cs',(hrd.fr0 g5).fr g6 (hmut r (by omega) (by omega) (by omega) (by omega)),hb9,(hk6d.fr0 g5).fr g6 (hmut _ (by omega) (by omega) (by omega) (by omega)),by omega,by omega⟩)
       have HCALL:=hdq hcall
       have HRUN9:=hdq hrun
       have HGO:=hdq hgo
       clear hkn hor hrc hwn hwd hf hT hp hBW hset hset0 hp4 hpg hfd hTR hmain hcall hk3d hk6d hrd hNd hbs hst0 hE0 hrun hgo hmut hmut2 hlow hk HF HT HP
       go_wp2_with fail
       refine HCALL.out.mono ?_
       rintro _ w5 ⟨vb,rfl,hf5,g,caps,rfl,hg,hcl⟩
       have HC9:=hdq (hcl w5 [] N _ h u (HGO.out w5 hf5) HRUN9.out)
       have HF5:=hdq hf5
       unfold Enters at hg
       clear hf5 hcl HGO HRUN9 HCALL
       go_wp2_with fail
       refine HC9.out.mono ?_
       rintro e w6 ⟨rfl,hs6,hf6⟩
       obtain⟨As',cs',hrc⟩:=HRC9.out w5 w6 HF5.out hf6 hs6
       have HRCX:=hdq hrc
       have HFW:=hdq (fun w7 h7=>HFIN.out w5 w6 w7 HF5.out hf6 hs6 h7)
       clear hs6 hf6 hrc HC9 HFIN HRC9
       cases h with
       |none=>
        unfold doEnd
        go_wp2_with fail
        refine leaves_cons (f:=24) (args:= #[.pointer (some ⟨r,0,none⟩),.pointer (some ⟨W.heap.size+1,0,none⟩)]) (by simp) (by simp[go_sem]) ?_
        refine(run1_idle r R (W.heap.size+1) _ _ _ _ _ _ _ _ _ _ _ _ _ _ _ _ _ w6 HRCX.out ⟨rfl,rfl,⟨_,rfl⟩,⟨_,_,_,rfl⟩,⟨_,_,_,rfl⟩,⟨_,rfl⟩,⟨_,rfl⟩,⟨_,rfl⟩⟩).mono ?_
        rintro e u' w7 ⟨rfl,rfl,hb7,hf7⟩
        exact run_leaves hb7 (by rw[HRR.out];exact HFW.out w7 hf7)
       |some ho=>
        unfold doEnd endE
        go_wp2_with fail
        refine leaves_cons (f:=24) (args:= #[.pointer (some ⟨r,0,none⟩),.pointer (some ⟨W.heap.size+1,0,none⟩)]) (by simp) (by simp[go_sem]) ?_
        refine(run1_catch ho.kind ho.wrong ho.at_ [] r R (W.heap.size+1) _ _ _ _ _ _ _ _ _ _ _ _ _ _ _ _ _ w6 HRCX.out ⟨rfl,rfl,⟨_,rfl⟩,⟨_,_,_,rfl⟩,⟨_,_,_,rfl⟩,⟨_,rfl⟩,⟨_,rfl⟩,⟨_,rfl⟩⟩).mono ?_
        rintro e u' w7 ⟨rfl,rfl,hb7,hf7⟩
        exact run_leaves hb7 (by rw[HRR.out];exact HFW.out w7 hf7)
end Go.Proofs.YtfomomaomggpbaaGreatDoor
