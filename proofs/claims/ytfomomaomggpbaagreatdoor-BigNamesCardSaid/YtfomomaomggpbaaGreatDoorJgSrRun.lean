/-
  A run of ref14 in memory; ref14's ends. 
-/
import Derived.Laws.OwnMore
import Derived.Test.YtfomomaomggpbaaGreatDoorBgRun
import Derived.Test.YtfomomaomggpbaaGreatDoorJnPs
set_option linter.unusedVariables false
set_option linter.unusedSimpArgs false
set_option maxHeartbeats 3200000
set_option maxRecDepth 100000
namespace Go.Proofs.YtfomomaomggpbaaGreatDoor
open Go.RowKit Go.Shelf

theorem results_cell_tmp {P:Program} {fn:Func} {p q:Tmp} {ty:TypeId} (h:fn.results= #[.cell p ty,.tmp q]) (tmps:Array Value) (w:World) (g:Nat) (t:TypeId) (cs:Array Value) (fr:Nat×Nat) (d:TypeDesc)
  (hp:tmps.getD p undef= .pointer (some ⟨g,0,none⟩)) (hg:w.heap[g]?=some (.cells cs t fr))
  (hu:P.underlying ty=some d) (hd:(match d with| .struct _| .array _ _=>true|_=>false)=true) (hi:(P.info? ty).map (·.size)=some cs.size):
  (results fn tmps).run P w= .ok (.tuple #[.agg cs,tmps.getD q undef]) w:=by
 have hp':tmps[p]?.getD undef= .pointer (some ⟨g,0,none⟩):=by simpa using hp
 simp[results,h,hp',asAddr,run_loadVar_row w g t ty cs fr d hg hu hd hi]

theorem Sto.lower {w:World} {L L':Nat} {vs:List Int} {ls:List (List Int)} {bv:Nat} {A:Option Addr} {c:Nat} {bs:List Nat} (hL:L≤L') (h:Sto w L' vs ls bv A c bs):Sto w L vs ls bv A c bs:=by
 refine⟨h.v,leq9 hL h.vl,⟨h.row.1,?_⟩,h.len,fun i b l hi hl=>⟨leq9 hL (h.each i b l hi hl).1,(h.each i b l hi hl).2⟩,h.nd,h.nv,h.rv,h.rb,h.i64,h.few⟩
 rcases h.row.2 with h2|⟨g,cap,cur,e,h3,r⟩
 ·exact .inl h2
 ·exact .inr ⟨g,cap,cur,e,leq9 hL h3,r⟩
theorem infoEnd:(Tryz.prog.info? 34).map (·.size)=some 8:=by kernel_rfl

open Go.RowKit Go.Shelf Go.Maps

theorem bgThen {T U:Nat→Prop} {a b c:World} (h:Fr T a b) (k:Fr U b c) (ht:∀i,i < a.heap.size→U i→T i):Fr T a c:=
 ⟨k.os.trans h.os,k.tape.trans h.tape,k.output.trans h.output,leq9 h.size k.size,fun i hi hn=>(k.block i (ltq hi h.size) fun hu=>hn (ht i hi hu)).trans (h.block i hi hn)⟩
theorem stoB_far {w w':World} {L:Nat} {vs:List Int} {ls:List (List Int)} {bv:Nat} {A:Option Addr} {c:Nat} {bs:List Nat} {U:Nat→Prop} (h:Sto w L vs ls bv A c bs) (hf:Fr U w w') (hU:∀b,U b→b < L∨w.heap.size≤b):Sto w' L vs ls bv A c bs:=by
 refine h.fr hf (fun e=>?_) (fun b hb e=>?_) fun b hb e=>?_
 ·have:=hU _ e
  have:=h.vl
  have:=h.v.lt
  omega
 ·have:=hU _ e
  obtain⟨j,hj⟩:=List.getElem?_of_mem hb
  have hjl:j < ls.length:=by rw[←h.len];exact(List.getElem?_eq_some_iff.1 hj).1
  have:=(h.each j b _ hj (List.getElem?_eq_getElem hjl)).2.lt
  have:=(h.each j b _ hj (List.getElem?_eq_getElem hjl)).1
  omega
 ·have:=hU _ e
  have:=h.row.lt b hb
  omega

def TrueB (W:World) (e:Ending) (w':World):Prop:=e= .returned (.bool true)∧Fr NoT W w'
def al0:List UInt8:= [118,97,114,32,120,59,112,114,111,99,32,112,40,117,41,123,120,61,120,43,117,59,125,109,97,105,110,123,99,97,108,108,32,112,40,50,41,59,99,97,108,108,32,112,40,120,41,59,125]
def alX:ByteArray:=⟨#[120]⟩
def alU:ByteArray:=⟨#[117]⟩
def alP:ByteArray:=⟨#[112]⟩
def alN:ByteArray:=⟨#[]⟩
def alB:Sts:= .cons 2 alX (.cons 5 alN 0 (.cons 2 alX 0 .nil 18 (.cons 2 alU 0 .nil 20 .nil)) 19 .nil) .nil .nil .nil 16 .nil
def al1:Tre:=⟨[⟨alX,4⟩], [], [⟨alP, [⟨alU,13⟩],alB,11⟩],
 .cons 9 alP (.cons 1 alN 2 .nil 35 .nil) .nil .nil .nil 28 (.cons 9 alP (.cons 2 alX 0 .nil 45 .nil) .nil .nil .nil 38 .nil)⟩
theorem al_parse:parseB al0=(al1,0,0):=by kernel_rfl
theorem al_tree:treeC al1=(0,0):=by kernel_rfl
theorem al_sz:SzT al1:=by
 refine⟨by decide+kernel,by decide+kernel,fun x hx=>?_,?_⟩
 ·obtain rfl:x=⟨alP, [⟨alU,13⟩],alB,11⟩:=List.mem_singleton.1 hx
  refine⟨by decide,by decide+kernel,?_⟩
  unfold alB
  repeat' first|exact trivial|apply aiq|(show ByteArray.size _≤_;decide)
 ·show szS al1.main
  repeat' first|exact trivial|apply aiq|(show ByteArray.size _≤_;decide)
theorem RunT.plainE {n:Bn} {ps:List (List UInt8)} {k:Int} {nm:ByteArray} {args:Exs} {cond:Cds} {body els:Sts} {at_:Int} {s t:Bs} {h:Option Ho} (hk:k≤4) (e:plainO n ps s k nm args at_=(h,t)):RunT n (.one ps k nm args cond body els at_) s h t:=by
 have:=RunT.plain (n:=n) (ps:=ps) (k:=k) (nm:=nm) (args:=args) (cond:=cond) (body:=body) (els:=els) (at_:=at_) (s:=s) hk
 rw[e]at this
 exact this
theorem al_run:RunT (bnOf al1) (.all [] al1.main) (bs0 al1 [] 9) none ⟨[4], [], [],3, []⟩:=by
 have hp:(bnOf al1).procs alP.data.toList=some ⟨alP, [⟨alU,13⟩],alB,11⟩:=by kernel_rfl
 refine .next (s1:=⟨[2], [], [],6, []⟩) ?_ (.next (s1:=⟨[4], [], [],3, []⟩) ?_ .nil)
 ·exact .call (m:=8) (xs:= [2]) (t:=⟨[0], [], [],7, []⟩) (u:=⟨[2], [], [],6, [2]⟩) (by kernel_rfl) hp (by kernel_rfl) (.next (s1:=⟨[2], [], [],6, [2]⟩) (.plainE (by decide) (by kernel_rfl)) .nil)
 ·exact .call (m:=5) (xs:= [2]) (t:=⟨[2], [], [],4, []⟩) (u:=⟨[4], [], [],3, [2]⟩) (by kernel_rfl) hp (by kernel_rfl) (.next (s1:=⟨[4], [], [],3, [2]⟩) (.plainE (by decide) (by kernel_rfl)) .nil)
def wh0:List UInt8:= [109,97,105,110,123,119,104,105,108,101,40,116,114,117,101,41,123,125,125]
def wh1:Tre:=⟨[], [], [],.cons 8 alN .nil (.cons 1 .nil .nil 11 .nil) .nil .nil 5 .nil⟩
theorem wh_parse:parseB wh0=(wh1,0,0):=by kernel_rfl
theorem wh_tree:treeC wh1=(0,0):=by kernel_rfl
theorem wh_sz:SzT wh1:=by
 refine⟨by decide+kernel,by decide+kernel,fun x hx=>(by cases hx),?_⟩
 show szS wh1.main
 repeat' first|exact trivial|apply aiq|(show ByteArray.size _≤_;decide)
theorem wh_one:∀m:Nat,RunT (bnOf wh1) (.one [] 8 alN .nil (.cons 1 .nil .nil 11 .nil) .nil .nil 5) ⟨[], [], [],m, []⟩ (some ⟨2,0,5⟩) ⟨[], [], [],0, []⟩
 |0=> .out (.inl rfl) rfl
 |m+1=> .again (m:=m) (l:=m) (t:=⟨[], [], [],m, []⟩) rfl rfl .nil (wh_one m)
theorem wh_run:RunT (bnOf wh1) (.all [] wh1.main) (bs0 wh1 [] 9) (some ⟨2,0,5⟩) ⟨[], [], [],0, []⟩:= .stop (wh_one 9)
def BRanP (h:Option Ho) (u:Bs) (W:World) (e:Ending) (w':World):Prop:=Fr NoT W w'∧∃V A c bs,e= .returned (.tuple #[.agg (bgEndC (hoD h).kind (hoD h).wrong (hoD h).at_ (.int .i64 0) (.int .i64 0) (.int .i64 u.left) (.slice (some ⟨V,0,none⟩) u.vs.length u.vs.length) (.slice A u.ls.length c)),.bool true])∧Sto w' W.heap.size u.vs u.ls V A c bs
theorem bran_any (x:List UInt8) (hx:x.toArray.size≤9223372036854775807) (t:Tre) (hp:parseB x=(t,0,0)) (ht:treeC t=(0,0)) (hz:SzT t) (steps:Int) (hs:0≤steps∧steps≤65536) (h:Option Ho) (u:Bs) (hr:RunT (bnOf t) (.all [] t.main) (bs0 t [] steps) h u) (w:World) (he:NameEnv w):
  Calls Tryz.prog 13 #[.string ⟨x.toArray⟩,.int .i64 steps] w (BRanP h u w):=by
 obtain⟨w1,hw1⟩:=nmq (w.alloc (.cells #[.int .u8 0,.int .u8 0,.int .i64 0,.int .i64 0,.int .i64 0,.int .i64 0,.slice none 0 0,.slice none 0 0] 34))
 have hf1:Fr NoT w w1:=by rw[hw1];exact(Fr.refl _ _).alloc _
 have hk1:Bk w1 w.heap.size 34 #[.int .u8 0,.int .u8 0,.int .i64 0,.int .i64 0,.int .i64 0,.int .i64 0,.slice none 0 0,.slice none 0 0]:=by rw[hw1];exact Bk.new _ _ _
 obtain⟨X,hX⟩:=nmq ((⟨x.toArray⟩:ByteArray))
 have h1:=parse_any X (by rw[hX];exact hx) w1 (he.keep hf1.plain)
 rw[show X.data.toList=x from by rw[hX],hp]at h1
 rw[←hX]
 have he0:bigE t ([]:List Int).length steps=0:=by
  unfold bigE
  rw[ht,if_pos rfl,if_neg (by decide),if_neg (by omega)]
 have HW1:=hdq hw1
 have HF1:=hdq hf1
 have HK1:=hdq hk1
 have H1:=hdq (show Calls Tryz.prog 29 _ w1 (fun e w'=>∃Av Aa Ap Am cv ca cp cm,e= .returned (.tuple #[trV t Av Aa Ap Am cv ca cp cm,.int .i64 0,.int .i64 0])∧TrR w' (New w1.heap.size w') False t Av Aa Ap Am cv ca cp cm∧Below w1.heap.size w1 w')from h1)
 have HE:=hdq he
 have HE0:=hdq he0
 have HR:=hdq (aiq hr (aiq hz hs))
 clear hw1 hf1 hk1 h1 he he0 hX hx hp ht hz hs hr
 unfold trV at H1
 obtain⟨nv,hnv⟩:=nmq t.vars.length
 obtain⟨na,hna⟩:=nmq t.arrays.length
 obtain⟨np,hnp⟩:=nmq t.procs.length
 obtain⟨nm,hnm⟩:=nmq t.main.len
 rw[←hnv,←hna,←hnp,←hnm]at H1
 have HN:=hdq (aiq hnv (aiq hna (aiq hnp hnm)))
 clear hnv hna hnp hnm
 go_enter Tryz.func13,Tryz.ntmps13
 go_wp2_with fail
 rw[←HW1.out]
 refine H1.out.mono ?_
 rintro _ w2 ⟨Av,Aa,Ap,Am,cv,ca,cp,cm,rfl,hT,hb⟩
 have hf2:Fr NoT w1 w2:=Fr.below hb
 obtain⟨w3,hw3⟩:=nmq (w2.alloc (.cells #[.slice Av nv cv,.slice Aa na ca,.slice Ap np cp,.slice Am nm cm] 27))
 have hf3:Fr NoT w2 w3:=by rw[hw3];exact(Fr.refl _ _).alloc _
 have hf03:Fr NoT w w3:=(HF1.out.trans hf2).trans hf3
 have h3:=(run_of t [] steps h u w3 (New w1.heap.size w2) False Av Aa Ap Am none cv ca cp cm 0 (HE.out.keep hf03.plain).toSp (fun b hb=>ltq hb.2 hf3.size) HR.out.2.1 (hT.keep (hf3.same fun b hb=>⟨hb.2,id⟩)) ⟨lrq _,by decide,fun h=>absurd h (by decide)⟩ (by have:=HR.out.2.2;unfold in64;omega) fun _=>HR.out.1).mono (fun e w' (q:BigP t [] steps h u w3 e w')=>(⟨q.1,by have h1:=q.2;rwa [if_pos HE0.out]at h1⟩:Fr NoT w3 w'∧∃V A c bs,e= .returned (.tuple #[.agg (bgEndC (hoD h).kind (hoD h).wrong (hoD h).at_ (.int .i64 0) (.int .i64 0) (.int .i64 u.left) (.slice (some ⟨V,0,none⟩) u.vs.length u.vs.length) (.slice A u.ls.length c)),.int .i64 0])∧Sto w' w3.heap.size u.vs u.ls V A c bs))
 unfold trV at h3
 rw[←HN.out.1,←HN.out.2.1,←HN.out.2.2.1,←HN.out.2.2.2,show([]:List Int).length =0 from rfl]at h3
 obtain⟨k0,hk0⟩:=nmq ((hoD h).kind )
 obtain⟨k1,hk1⟩:=nmq ((hoD h).wrong )
 obtain⟨k2,hk2⟩:=nmq ((hoD h).at_ )
 obtain⟨k5,hk5⟩:∃k:Int,k=u.left:=⟨_,rfl⟩
 obtain⟨k6,hk6⟩:=nmq u.vs.length
 obtain⟨k7,hk7⟩:=nmq u.ls.length
 unfold BRanP
 rw[←hk0,←hk1,←hk2,←hk5,←hk6,←hk7]at h3 ⊢
 have HKN:=hdq (aiq hk0 (aiq hk1 (aiq hk2 (aiq hk5 (aiq hk6 hk7)))))
 have H3:=hdq h3
 have HW3:=hdq hw3
 have HF03:=hdq hf03
 have HK3:=hdq ((HK1.out.fr0 hf2).fr0 hf3)
 clear hT hb hf2 hw3 hf3 hf03 h3 hk0 hk1 hk2 hk5 hk6 hk7
 go_wp2_with fail
 rw[←HW3.out]
 go_at_call 9
 refine H3.out.mono ?_
 rintro _ w6 ⟨hf6,V,A,c,bs,rfl,hst⟩
 unfold bgEndC
 have hk6:=HK3.out.fr0 hf6
 have hwz:w.heap.size < w3.heap.size:=HK3.out.lt
 obtain⟨w7,hw7⟩:=nmq ((((((((w6.setCell ⟨w.heap.size,0,none⟩ (.int .u8 k0)).setCell ⟨w.heap.size,1,none⟩ (.int .u8 k1)).setCell ⟨w.heap.size,2,none⟩ (.int .i64 k2)).setCell ⟨w.heap.size,3,none⟩ (.int .i64 0)).setCell ⟨w.heap.size,4,none⟩ (.int .i64 0)).setCell ⟨w.heap.size,5,none⟩ (.int .i64 k5)).setCell ⟨w.heap.size,6,none⟩ (.slice (some ⟨V,0,none⟩) k6 k6)).setCell ⟨w.heap.size,7,none⟩ (.slice A k7 c))
 have hff0:Fr (fun i=>i=w.heap.size) w6 w7:=by rw[hw7];exact(Fr.own (Fr.own (Fr.own (Fr.own (Fr.own (Fr.own (Fr.own (Fr.own (Fr.refl _ _) _ _) _ _) _ _) _ _) _ _) _ _) _ _) _ _)
 have hk7:Bk w7 w.heap.size 34 #[.int .u8 k0,.int .u8 k1,.int .i64 k2,.int .i64 0,.int .i64 0,.int .i64 k5,.slice (some ⟨V,0,none⟩) k6 k6,.slice A k7 c]:=by
  have:=((((((((hk6.set_ 0 (.int .u8 k0)).set_ 1 (.int .u8 k1)).set_ 2 (.int .i64 k2)).set_ 3 (.int .i64 0)).set_ 4 (.int .i64 0)).set_ 5 (.int .i64 k5)).set_ 6 (.slice (some ⟨V,0,none⟩) k6 k6)).set_ 7 (.slice A k7 c))
  rw[hw7];simpa using this
 obtain⟨wf,hwf⟩:=nmq (w7.alloc (.cells #[.int .u8 k0,.int .u8 k1,.int .i64 k2,.int .i64 0,.int .i64 0,.int .i64 k5,.slice (some ⟨V,0,none⟩) k6 k6,.slice A k7 c] 34))
 have hf7:Fr NoT w7 wf:=by rw[hwf];exact(Fr.refl _ _).alloc _
 have hkf:=hk7.fr0 hf7
 have hff:Fr NoT w wf:=(bgThen (HF03.out.trans hf6) hff0 fun i hi e=>by have e:i=w.heap.size:=e;omega).trans hf7
 have hst7:=stoB_far hst hff0 fun b e=> .inl (by have e:b=w.heap.size:=e;omega)
 have HST:=hdq ((stoB_far hst7 hf7 fun b e=>e.elim).lower (Nat.le_of_lt hwz))
 have HW7:=hdq hw7
 have HK6:=hdq hk6
 have HWF:=hdq hwf
 have HFF:=hdq hff
 have HKF:=hdq hkf
 clear hf6 hst hst7 hk6 hw7 hf7 hk7 hwf hff0 hkf hff hwz
 have kz0:=HK6.out.frozen 0
 have kz1:=HK6.out.frozen 1
 have kz2:=HK6.out.frozen 2
 have kz3:=HK6.out.frozen 3
 have kz4:=HK6.out.frozen 4
 have kz5:=HK6.out.frozen 5
 have kz6:=HK6.out.frozen 6
 have kz7:=HK6.out.frozen 7
 have kc0:=HK6.out.cell 0
 have kc1:=HK6.out.cell 1
 have kc2:=HK6.out.cell 2
 have kc3:=HK6.out.cell 3
 have kc4:=HK6.out.cell 4
 have kc5:=HK6.out.cell 5
 have kc6:=HK6.out.cell 6
 have kc7:=HK6.out.cell 7
 have kl:=HK6.out.lt
 simp only[getsL]at kc0 kc1 kc2 kc3 kc4 kc5 kc6 kc7
 go_wp2_with fail
 rw[←HW7.out,←HWF.out]
 refine bodyPost_ret (results_cell_tmp (p:=4) (q:=5) (ty:=34) rfl _ _ w.heap.size 34 _ (0,0) _ rfl HKF.out Tryz.underlying34 rfl infoEnd) rfl ?_
 obtain⟨rfl,rfl,rfl,rfl,rfl,rfl⟩:=HKN.out
 exact⟨HFF.out,V,A,c,bs,rfl,HST.out⟩
theorem balive_any (w:World) (he:NameEnv w):Calls Tryz.prog 14 #[] w (TrueB w):=by
 have h1:=bran_any al0 (by decide) al1 al_parse al_tree al_sz 9 (by decide) none ⟨[4], [], [],3, []⟩ al_run w he
 unfold al0 at h1
 have H1:=hdq (show Calls Tryz.prog 13 _ w (fun e w'=>Fr NoT w w'∧∃V A c bs,e= .returned (.tuple #[.agg #[.int .u8 1,.int .u8 0,.int .i64 0,.int .i64 0,.int .i64 0,.int .i64 3,.slice (some ⟨V,0,none⟩) 1 1,.slice A 0 c],.bool true])∧Sto w' w.heap.size [4] [] V A c bs)from h1)
 clear h1 he
 go_enter Tryz.func14,Tryz.ntmps14
 go_wp2_with fail
 refine H1.out.mono ?_
 rintro _ w2 ⟨hf,V,A,c,bs,rfl,hst⟩
 have kv:=hst.v.cell 0
 have kl:=hst.v.lt
 simp only[intL,List.map_cons,List.map_nil,List.getElem?_toArray,List.getElem?_cons_zero]at kv
 have HF:=hdq hf
 clear hf hst
 go_wp2_with fail
 go_ret
 exact⟨rfl,HF.out.alloc _⟩
theorem bnames_any (w:World) (he:NameEnv w):Calls Tryz.prog 4 #[] w (TrueB w):=by
 have h1:=bran_any wh0 (by decide) wh1 wh_parse wh_tree wh_sz 9 (by decide) (some ⟨2,0,5⟩) ⟨[], [], [],0, []⟩ wh_run w he
 unfold wh0 at h1
 have H1:=hdq (show Calls Tryz.prog 13 _ w (fun e w'=>Fr NoT w w'∧∃V A c bs,e= .returned (.tuple #[.agg #[.int .u8 2,.int .u8 0,.int .i64 5,.int .i64 0,.int .i64 0,.int .i64 0,.slice (some ⟨V,0,none⟩) 0 0,.slice A 0 c],.bool true])∧Sto w' w.heap.size [] [] V A c bs)from h1)
 have HE:=hdq he
 clear h1 he
 go_enter Tryz.func4,Tryz.ntmps4
 go_wp2_with fail
 refine H1.out.mono ?_
 rintro _ w2 ⟨hf,V,A,c,bs,rfl,hst⟩
 obtain⟨w3,hw3⟩:=nmq (w2.alloc (.cells #[.int .u8 2,.int .u8 0,.int .i64 5,.int .i64 0,.int .i64 0,.int .i64 0,.slice (some ⟨V,0,none⟩) 0 0,.slice A 0 c] 34))
 have hf3:Fr NoT w2 w3:=by rw[hw3];exact(Fr.refl _ _).alloc _
 have hk3:Bk w3 w2.heap.size 34 #[.int .u8 2,.int .u8 0,.int .i64 5,.int .i64 0,.int .i64 0,.int .i64 0,.slice (some ⟨V,0,none⟩) 0 0,.slice A 0 c]:=by rw[hw3];exact Bk.new _ _ _
 have HA:=hdq (balive_any w3 (HE.out.keep (hf.trans hf3).plain))
 have HF:=hdq (hf.trans hf3)
 have HW3:=hdq hw3
 have HK3:=hdq hk3
 clear hf hst hf3 hw3 hk3
 go_wp2_with fail
 rw[←HW3.out]
 go_at_call 14
 refine HA.out.mono ?_
 rintro _ w4 ⟨rfl,hf4⟩
 have hk4:=HK3.out.fr0 hf4
 have c0:=hk4.cell 0
 have c2:=hk4.cell 2
 have c5:=hk4.cell 5
 have cl:=hk4.lt
 simp only[getsL]at c0 c2 c5
 have HF4:=hdq (HF.out.trans hf4)
 clear hf4 hk4
 go_wp2_with fail
 go_ret
 exact⟨rfl,HF4.out⟩
def TrueW (W:World) (e:Ending) (w':World):Prop:=e= .returned (.bool true)∧Below W.heap.size W w'
theorem TrueB.plain {W:World} {e:Ending} {w':World} (h:TrueB W e w'):TrueW W e w':=⟨h.1,h.2.plain⟩
theorem bnames_law (w:World) (he:NameEnv w):Calls Tryz.prog 4 #[] w (TrueW w):=(bnames_any w he).mono fun _ _ h=>h.plain
end Go.Proofs.YtfomomaomggpbaaGreatDoor
