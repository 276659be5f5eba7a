/-
  sem's does: what an edge does; a fault is thrown.
-/
import Derived.Test.YtobegfbdedgmpaaGreatDoorJgSrR
import Derived.Test.YtobegfbdedgmpaaGreatDoorSvTry
set_option linter.unusedVariables false
set_option linter.unusedSimpArgs false
namespace Go.Proofs.YtobegfbdedgmpaaGreatDoor
open Go.RowKit Go.Shelf Go.Maps

def zdJ (m:MW) (s:Rs) (e:Ed) (i:Int) (w:World) (en:Ending) (w':World):Prop:=
 Fr m.c.T w w'∧match doE s e i with
  | .inl t=>en= .returned (.pointer none)∧∃As cs,MnR m w' t As cs 0 0 0 i
  | .inr z=>(∃f:Int×Int,f.1≠0∧en=fault 246 f∧z=s.stop 5 f.1 f.2 i∧∃As cs,MnR m w' s As cs 0 0 0 i)∨
   ∃(k at_:Int) (P:Nat),en= .returned (.pointer (some ⟨P,0,none⟩))∧z=s.stop k 0 at_ i∧Bk w' P 171 #[.int .u8 k,.int .i64 at_]∧w.heap.size≤P∧∃As cs,MnR m w' s As cs 0 0 0 i
theorem zcI {m:MW} {s t:Rs} {e:Ed} {i:Int} {w w':World} {As:Option Addr} {cs:Nat} (hf:Fr m.c.T w w') (hd:doE s e i= .inl t) (h:MnR m w' t As cs 0 0 0 i):zdJ m s e i w (.returned (.pointer none)) w':=by
 refine⟨hf,?_⟩;rw[hd];exact⟨rfl,As,cs,h⟩
theorem zbC {m:MW} {s:Rs} {e:Ed} {i:Int} {w w':World} {As:Option Addr} {cs:Nat} {f:Int×Int} {en:Ending} (hf:Fr m.c.T w w') (h0:f.1≠0) (hen:en=fault 246 f) (hd:doE s e i= .inr (s.stop 5 f.1 f.2 i)) (h:MnR m w' s As cs 0 0 0 i):zdJ m s e i w en w':=by
 refine⟨hf,?_⟩;rw[hd];exact .inl ⟨f,h0,hen,rfl,As,cs,h⟩
theorem zer {m:MW} {s:Rs} {e:Ed} {i:Int} {w w':World} {As:Option Addr} {cs:Nat} {k at_:Int} {P:Nat} (hf:Fr m.c.T w w') (hd:doE s e i= .inr (s.stop k 0 at_ i)) (hP:Bk w' P 171 #[.int .u8 k,.int .i64 at_]) (hl:w.heap.size≤P) (h:MnR m w' s As cs 0 0 0 i):zdJ m s e i w (.returned (.pointer (some ⟨P,0,none⟩))) w':=by
 refine⟨hf,?_⟩;rw[hd];exact .inr ⟨k,at_,P,rfl,rfl,hP,hl,As,cs,h⟩
theorem zdK (vs:List Int) (ls:List (List Int)) (Av Aa:Option Addr) (cv ca B:Nat) (h64:St64 vs ls):∀xs:Exs,mayX vs.length ls.length xs=true→Ns64 xs→zgI vs ls Av Aa cv ca B xs
 | .nil,_,_=>fun i _ _ _ _ _ _ hd=>by cases i<;>simp[Exs.drop]at hd
 | .cons k nm n args at_ rest,hm,hn=>fun i k' nm' n' args' at' rest' hd W A c hB hst hx=>by
  simp only[mayX,Bool.and_eq_true]at hm
  cases i with
  |zero=>
   simp only[Exs.drop]at hd
   injection hd with e1 e2 e3 e4 e5 e6
   subst e1 e2 e3 e4 e5 e6
   exact znz vs ls Av Aa cv ca B k nm n args at_ A c W hB hst hx (zdK vs ls Av Aa cv ca B h64 args hm.1.2 hn.2.1) hm.1.1 h64 hn.2.1
  |succ i=>
   simp only[Exs.drop]at hd
   exact zdK vs ls Av Aa cv ca B h64 rest hm.2 hn.2.2 i k' nm' n' args' at' rest' hd W A c hB hst hx
theorem znE {xs:Exs} (h:xs.len=1):∃a b c d e,xs= .cons a b c d e .nil :=by
 match xs,h with
 | .cons a b c d e .nil,_=>exact⟨a,b,c,d,e,rfl⟩
 | .cons _ _ _ _ _ (.cons _ _ _ _ _ _),h=>simp[Exs.len]at h
theorem zkw {xs:Exs} (h:xs.len=2):∃a b c d e a' b' c' d' e',xs= .cons a b c d e (.cons a' b' c' d' e' .nil):=by
 match xs,h with
 | .cons a b c d e .nil,h=>simp[Exs.len]at h
 | .cons a b c d e (.cons a' b' c' d' e' .nil),_=>exact⟨a,b,c,d,e,a',b',c',d',e',rfl⟩
 | .cons _ _ _ _ _ (.cons _ _ _ _ _ (.cons _ _ _ _ _ _)),h=>simp[Exs.len]at h
theorem zeY {g:Gr} (h:mayG g=true) {e:Ed} (he:e∈g.edges):(e.kind=3→e.args.len=1)∧(e.kind=4→e.args.len=2)∧(e.kind=6→e.args.len=2)∧(e.kind=1→e.args.len=0)∧(e.kind=2→e.args.len=0):=by
 have h1:=zgM h he
 simp only[zbB,mayD,headD,Bool.or_eq_false_iff,Bool.not_eq_false',Bool.and_eq_true,decide_eq_true_eq,beq_iff_eq]at h1
 obtain⟨_,⟨⟨_,hl⟩,_⟩,_⟩:=h1
 refine⟨fun k=>?_,fun k=>?_,fun k=>?_,fun k=>?_,fun k=>?_⟩
 all_goals
  rw[k]at hl
  simp[zjG]at hl
  omega
theorem MnR.asks {m:MW} {w:World} {s:Rs} {As:Option Addr} {cs:Nat} {k wr at_ ed:Int} (h:MnR m w s As cs k wr at_ ed) {e:Ed} (hme:MayE m.c.g e) (hn:Ns64 e.args):zgI s.vs s.ls (some ⟨m.c.bv,0,none⟩) m.c.Ar s.vs.length m.c.cr w.heap.size e.args:=
 zdK s.vs s.ls _ _ _ _ _ h.sto.i64 e.args (by rw[h.nv,h.na];exact hme.x) hn

set_option maxRecDepth 100000 in
set_option maxHeartbeats 6400000 in
theorem zkx (m:MW) (w:World) (s:Rs) (As:Option Addr) (cs:Nat) (i:Nat) (e:Ed) (A5:Option Addr) (c5:Nat) (h:MnR m w s As cs 0 0 0 i) (hm:mayG m.c.g=true) (he:m.c.g.edges[i]?=some e) (hx5:ExSl w m.c.L e.args A5 c5) (h6:e.kind≠6):
  Calls Tryz.prog 160 #[.pointer (some ⟨m.c.R,0,none⟩),.agg #[.int .i64 e.from_,.int .i64 e.to_,.int .u8 e.kind,.int .i64 e.n,.int .u8 e.cmp,.slice A5 e.args.len c5,.int .i64 e.at_]] w (zdJ m s e i w):=by
 have hmem:=List.mem_of_getElem? he
 have hme:=zoS hm hmem
 have hma:=zeY hm hmem
 have q7:=h.blk.cell 7
 have q14:=h.blk.cell 14
 have q15:=h.blk.cell 15
 have g7:=h.blk.frozen 7
 simp only[mnC,rnC,List.getElem?_toArray,List.getElem?_cons_succ,List.getElem?_cons_zero]at q7 q14 q15
 have hR:m.c.R < w.heap.size:=h.blk.lt
 have HNS:=hdq (zgF hx5)
 have H6:=hdq h6
 obtain⟨W2,hW2⟩:=nmq ((w.alloc (.cells #[.int .i64 e.from_,.int .i64 e.to_,.int .u8 e.kind,.int .i64 e.n,.int .u8 e.cmp,.slice A5 e.args.len c5,.int .i64 e.at_] 47)).alloc (.cells #[.slice (some ⟨m.c.bv,0,none⟩) s.vs.length s.vs.length,.slice m.c.Ar s.ls.length m.c.cr] 57))
 have hf2:Fr NoT w W2:=by rw[hW2];exact((Fr.refl _ _).alloc _).alloc _
 have kk:=zbZ w #[.int .i64 e.from_,.int .i64 e.to_,.int .u8 e.kind,.int .i64 e.n,.int .u8 e.cmp,.slice A5 e.args.len c5,.int .i64 e.at_] #[.slice (some ⟨m.c.bv,0,none⟩) s.vs.length s.vs.length,.slice m.c.Ar s.ls.length m.c.cr] 47 57
 rw[←hW2]at kk
 have d2:=kk.1.cell 2
 have d3:=kk.1.cell 3
 have d5:=kk.1.cell 5
 have d6:=kk.1.cell 6
 have t0:=kk.2.cell 0
 have t1:=kk.2.cell 1
 have hS0:=kk.1.lt
 have hS1:=kk.2.lt
 simp only[List.getElem?_toArray,List.getElem?_cons_succ,List.getElem?_cons_zero]at d2 d3 d5 d6 t0 t1
 obtain⟨en,hen⟩:∃n:Nat,e.n=(n:Int):=⟨e.n.toNat,by have:=hme.n.1;omega⟩
 rw[hen]at d3 hW2 ⊢
 obtain⟨ek,hek⟩:=nmq e.kind
 obtain⟨ea,hea⟩:=nmq e.at_
 obtain⟨xs,hxs⟩:=nmq e.args
 rw[←hek]at d2 hW2 ⊢
 rw[←hea]at d6 hW2 ⊢
 rw[←hxs]at d5 hW2 hx5 HNS hma ⊢
 obtain⟨xl,hxl⟩:=nmq xs.len
 rw[←hxl]at d5 hW2 ⊢
 have HXL:=hdq hxl
 have HASK:=hdq (h.asks hme (hxs▸HNS.out))
 rw[←hxs]at HASK
 have HR2:=hdq (h.fr0 hf2)
 have HH:=hdq h
 have HM:=hdq hme
 have HMA:=hdq hma
 have HEK:=hdq hek
 have HEA:=hdq hea
 have HEN:=hdq hen
 have HXS:=hdq hxs
 have HF2:=hdq hf2
 have HX5:=hdq hx5
 have HW2:=hdq hW2
 have HZ2:=hdq (show W2.heap.size=w.heap.size+1+1 from by rw[hW2];simp)
 have q7':=(hf2.cell (p:=⟨m.c.R,7,none⟩) hR id).trans q7
 have g7':=(hf2.frozen (p:=⟨m.c.R,7,none⟩) hR id).trans g7
 have hR2:=hf2.low hR
 obtain⟨R,hRR⟩:=nmq m.c.R
 rw[←hRR]at q7 q14 q15 g7 q7' g7' hR hR2 ⊢
 have HRR:=hdq hRR
 obtain⟨Y,hY⟩:=nmq m.c.bv
 rw[←hY]at q14 t0 HW2 hW2
 have HY:=hdq hY
 obtain⟨n1,hn1⟩:=nmq s.vs.length
 obtain⟨n2,hn2⟩:=nmq s.ls.length
 obtain⟨n3,hn3⟩:=nmq s.script.length
 rw[←hn1]at q14 t0 HW2
 rw[←hn2]at q15 t1 HW2
 rw[←hn3]at q7 q7'
 have HN1:=hdq hn1
 have HN2:=hdq hn2
 have HN3:=hdq hn3
 have hn3l:n3≤9223372036854775807:=by rw[hn3];exact Nat.le_trans h.sc.1 h.sc.2.1
 have hn1l:n1≤1000:=by rw[hn1];exact h.sto.few.1
 have hn2l:n2≤1000:=by rw[hn2];exact h.sto.few.2.1
 clear h h6 hek hea hen hme hma hRR hY hW2 hf2 kk hn1 hn2 hn3 he hmem hm hx5 hxs hxl
 go_enter Tryz.func160,Tryz.ntmps160
 by_cases k7:ek=7
 ·subst k7
  go_wp2_with fail
  refine⟨rfl,?_⟩
  rw[←HW2.out]
  exact zbC HF2.out.any (f:=(1,ea)) (by show(1:Int)≠0;decide) rfl (by rw[doE,if_pos HEK.out.symm,HEA.out]) HR2.out
 have b7:(ek==7)=false:=by simpa using k7
 by_cases k8:ek=8
 ·subst k8
  go_wp2_with fail
  go_ret
  rw[←HW2.out]
  exact zer (HF2.out.any.alloc _) (by rw[doE,←HEK.out,if_neg (by decide),if_pos rfl,HEA.out]) (Bk.new_at _ _ _ HZ2.out) (by omega) (HR2.out.fr0 ((Fr.refl _ _).alloc _))
 have b8:(ek==8)=false:=by simpa using k8
 by_cases k5:ek=5
 ·subst k5
  cases hsc:s.script with
  |nil=>
   have hn0:n3=0:=by rw[HN3.out,hsc];rfl
   subst hn0
   have HSC:=hdq hsc
   clear hsc
   go_wp2_with fail
   go_ret
   rw[←HW2.out]
   exact zer (HF2.out.any.alloc _) (by rw[doE,←HEK.out,if_neg (by decide),if_neg (by decide),if_pos rfl,HSC.out,HEA.out]) (Bk.new_at _ _ _ HZ2.out) (by omega) (HR2.out.fr0 ((Fr.refl _ _).alloc _))
  |cons x q=>
   obtain⟨b6,o6,hA6,hsat⟩:=HH.out.sc.2.2 (by rw[hsc];simp)
   have c6:=(hsat.2 0 x (by rw[hsc];rfl)).1
   have c6b:b6 < w.heap.size:=Nat.lt_of_lt_of_le hsat.1 HH.out.lt
   have c6':W2.cell? ⟨b6,o6,none⟩=some (.int .i64 x):=(HF2.out.cell (p:=⟨b6,o6+0,none⟩) c6b id).trans c6
   have hn3':((n3:Int)==0)=false:=by rw[HN3.out,hsc];simp;omega
   have hn3p:(0:Int) < (n3:Int):=by rw[HN3.out,hsc,List.length_cons];omega
   have hn3q:0 < n3:=by omega
   rw[hA6]at q7 q7'
   have hen1:en < n1:=by have:=HM.out.n.2.2.1 HEK.out.symm;rw[←HH.out.nv]at this;rw[HEN.out]at this;rw[HN1.out];omega
   have hen1':(en:Int) < (n1:Int):=by omega
   have hen0:(0:Int)≤(en:Int):=by omega
   have hbk:=HR2.out.sto.v
   rw[←HY.out]at hbk
   have v0:=hbk.cell en
   have v1:=hbk.frozen en
   have hVl:=hbk.lt
   obtain⟨y,hy⟩:∃y,s.vs[en]?=some y:=⟨_,List.getElem?_eq_getElem (by rw[←HN1.out];exact hen1)⟩
   simp only[intL,List.getElem?_toArray,List.getElem?_map,hy,Option.map_some]at v0
   have n1':¬R=Y:=by rw[HRR.out,HY.out];exact HH.out.rv
   have n2':¬Y=R:=fun e=>n1' e.symm
   have hVL:m.c.L≤Y:=by rw[HY.out];exact HH.out.sto.vl
   have n3':¬b6=Y:=by have:=hsat.1;omega
   have n4':¬Y=b6:=fun e=>n3' e.symm
   have hVw:Y < w.heap.size:=by rw[HY.out];exact HH.out.sto.v.lt
   have n5':¬Y=w.heap.size:=by omega
   have n6':¬w.heap.size=Y:=by omega
   have n7':¬Y=w.heap.size+1:=by omega
   have n8':¬w.heap.size+1=Y:=by omega
   have HSC:=hdq hsc
   have HSAT:=hdq hsat
   have HA6:=hdq hA6
   have hle:=HH.out.sc.1
   rw[hsc,List.length_cons]at hle
   have HLE:=hdq hle
   clear hsc hbk hy hsat hA6 hle
   go_wp2_with fail
   rw[←HW2.out]
   go_region
   go_wp2_with fail
   ·go_ret
    rw[HY.out,HRR.out]
    have hin:=(HA6.out▸HR2.out:MnR m W2 s (some ⟨b6,o6,none⟩) cs 0 0 0 i)
    have hml:n3 - 1=q.length:=by rw[HN3.out,HSC.out];simp
    have hle:=HLE.out
    have hdo:doE s e i= .inl {s with vs:=s.vs.set en x,script:=q}:=by rw[doE,←HEK.out,if_neg (by decide),if_neg (by decide),if_pos rfl,HSC.out,HEN.out];rfl
    have hin2:=hin.input HSC.out en (A:=some ⟨b6,o6,none⟩) (.inr (List.length_eq_zero_iff.1 (by omega))) hml
    rw[show cs - 1=0 from by omega]at hin2
    exact zcI ((HF2.out.any.trans hin2.2).drew) hdo (hin2.1.fr0 (Fr.refl _ _).drew)
   ·go_ret
    rw[HY.out,HRR.out]
    have hin:=(HA6.out▸HR2.out:MnR m W2 s (some ⟨b6,o6,none⟩) cs 0 0 0 i)
    have hml:n3 - 1=q.length:=by rw[HN3.out,HSC.out];simp
    have hle:=HLE.out
    have hdo:doE s e i= .inl {s with vs:=s.vs.set en x,script:=q}:=by rw[doE,←HEK.out,if_neg (by decide),if_neg (by decide),if_pos rfl,HSC.out,HEN.out];rfl
    have hin2:=hin.input HSC.out en (A:=some ⟨b6,o6+1,none⟩) (.inl rfl) hml
    exact zcI ((HF2.out.any.trans hin2.2).drew) hdo (hin2.1.fr0 (Fr.refl _ _).drew)
 have b5:(ek==5)=false:=by simpa using k5
 by_cases k3:ek=3
 ·subst k3
  obtain⟨a0,a1,a2,a3,a4,hxe⟩:=znE (HMA.out.1 HEK.out.symm)
  subst hxe
  obtain rfl:xl=1:=HXL.out
  obtain⟨bx,ox,rfl,hat⟩:=HX5.out.2.2 (by simp[Exs.len])
  obtain⟨hbB,y0,y1,y2,⟨A',c',y3,hlc,hc9,hsl⟩,y4,r0,r1,r2,_⟩:=hat.keep (Same.of_fr HF2.out HH.out.lt fun _ h=>h.elim)
  have hbxw:bx < W2.heap.size:=by have:=HH.out.lt;omega
  have hslx:ExSl W2 w.heap.size a3 A' c':=(show ExSl W2 m.c.L a3 A' c' from⟨hlc,hc9,hsl⟩).more HH.out.lt
  obtain⟨l3,hl3⟩:=nmq a3.len
  have hcall:∀W,Fr NoT W2 W→Calls Tryz.prog 161 #[.agg #[.slice (some ⟨Y,0,none⟩) n1 n1,.slice m.c.Ar n2 m.c.cr],.agg #[.int .u8 a0,.string a1,.int .i64 a2,.slice A' l3 c',.int .i64 a4]] W (zay 246 (zar s.vs s.ls a0 a2 (zag s.vs s.ls a3)) (zao s.vs s.ls a0 a2 a3 a4) W):=fun W hW=>by
   rw[hl3,HY.out,HN1.out,HN2.out]
   exact HASK.out 0 a0 a1 a2 a3 a4 .nil rfl W A' c' (Nat.le_trans HF2.out.size hW.size) (HH.out.sto.stSl.keep (Same.of_fr (HF2.out.trans hW) (Nat.le_refl _) fun _ h=>h.elim)) (hslx.keep (Same.of_fr hW HF2.out.size fun _ h=>h.elim))
  rw[←hl3]at y3
  have hS:∀(T:Nat→Prop) (W':World),Fr T W2 W'→¬T (w.heap.size+1)→¬T w.heap.size→¬T bx→(W'.cell? ⟨w.heap.size+1,0,none⟩=some (.slice (some ⟨Y,0,none⟩) n1 n1)∧W'.cell? ⟨w.heap.size+1,1,none⟩=some (.slice m.c.Ar n2 m.c.cr)∧W'.cell? ⟨w.heap.size,3,none⟩=some (.int .i64 en)∧W'.cell? ⟨w.heap.size,5,none⟩=some (.slice (some ⟨bx,ox,none⟩) 1 c5)∧W'.cell? ⟨bx,ox,none⟩=some (.int .u8 a0)∧W'.cell? ⟨bx,ox+1,none⟩=some (.string a1)∧W'.cell? ⟨bx,ox+2,none⟩=some (.int .i64 a2)∧W'.cell? ⟨bx,ox+3,none⟩=some (.slice A' l3 c')∧W'.cell? ⟨bx,ox+4,none⟩=some (.int .i64 a4)):=fun T W' hf u1 u2 u3=>⟨(hf.cell (p:=⟨w.heap.size+1,0,none⟩) hS1 u1).trans t0,(hf.cell (p:=⟨w.heap.size+1,1,none⟩) hS1 u1).trans t1,(hf.cell (p:=⟨w.heap.size,3,none⟩) hS0 u2).trans d3,(hf.cell (p:=⟨w.heap.size,5,none⟩) hS0 u2).trans d5,(hf.cell (p:=⟨bx,ox,none⟩) hbxw u3).trans y0,(hf.cell (p:=⟨bx,ox+1,none⟩) hbxw u3).trans y1,(hf.cell (p:=⟨bx,ox+2,none⟩) hbxw u3).trans y2,(hf.cell (p:=⟨bx,ox+3,none⟩) hbxw u3).trans y3,(hf.cell (p:=⟨bx,ox+4,none⟩) hbxw u3).trans y4⟩
  have HS:=hdq hS
  have HC:=hdq hcall
  have hen1:en < n1:=by have:=HM.out.n.2.1 HEK.out.symm;rw[←HH.out.nv]at this;rw[HEN.out]at this;rw[HN1.out];omega
  have hen1':(en:Int) < (n1:Int):=by omega
  have hen0:(0:Int)≤(en:Int):=by omega
  have hbk:=HR2.out.sto.v
  rw[←HY.out]at hbk
  have hVw:Y < w.heap.size:=by rw[HY.out];exact HH.out.sto.v.lt
  have hVL:m.c.L≤Y:=by rw[HY.out];exact HH.out.sto.vl
  obtain⟨y,hy⟩:∃y,s.vs[en]?=some y:=⟨_,List.getElem?_eq_getElem (by rw[←HN1.out];exact hen1)⟩
  have HBK:=hdq hbk
  have HYY:=hdq hy
  obtain⟨f,hf⟩:=nmq (zao s.vs s.ls a0 a2 a3 a4)
  obtain⟨v,hv⟩:=nmq (zar s.vs s.ls a0 a2 (zag s.vs s.ls a3))
  rw[←hf,←hv]at HC
  have hflx:fltX s.vs s.ls e.args=f:=by
   rw[←HXS.out,hf,zbm]
   split
   ·rename_i h0;rw[zcl h0];rfl
   ·rfl
  have HFL:=hdq hflx
  have h64v:is64 v:=by
   have hm0:((zag s.vs s.ls (Exs.cons a0 a1 a2 a3 a4 .nil))).getD 0 0=v:=by rw[hv];rfl
   rw[←hm0];exact zbn (zbe HH.out.sto.i64 HNS.out) 0
  have HVX:=hdq (show(zag s.vs s.ls e.args).getD 0 0=v from by rw[←HXS.out,hv];rfl)
  clear hcall hat hsl hslx hlc hc9 hS hbk hy hf hv hflx hl3
  have hgo0:(Fr NoT W2 W2.drew):=(Fr.refl _ _).drew
  go_wp2_with fail
  rw[←HW2.out]
  refine zaE (fun W'=>W'.cell? ⟨w.heap.size+1,0,none⟩=some (.slice (some ⟨Y,0,none⟩) n1 n1)∧W'.cell? ⟨w.heap.size+1,1,none⟩=some (.slice m.c.Ar n2 m.c.cr)∧W'.cell? ⟨w.heap.size,3,none⟩=some (.int .i64 en)∧W'.cell? ⟨w.heap.size,5,none⟩=some (.slice (some ⟨bx,ox,none⟩) 1 c5)∧W'.cell? ⟨bx,ox,none⟩=some (.int .u8 a0)∧W'.cell? ⟨bx,ox+1,none⟩=some (.string a1)∧W'.cell? ⟨bx,ox+2,none⟩=some (.int .i64 a2)∧W'.cell? ⟨bx,ox+3,none⟩=some (.slice A' l3 c')∧W'.cell? ⟨bx,ox+4,none⟩=some (.int .i64 a4)) 14 (by kernel_rfl) (HS.out _ _ hgo0 id id id) (fun hHeld=>?_)
  refine zaa 0 (v:=?_) rfl (by kernel_rfl) (by kernel_rfl) (by kernel_rfl) (by kernel_rfl) (fun _ _ _ h=>h) hHeld (by rfl) ?_ ?_
  rotate_left
  ·intro wz hSz
   (try dsimp only at hSz)
   go_simp
   try with_reducible rfl
  try simp only[Act.put,List.setIfInBounds_toArray,List.set_cons_zero,List.set_cons_succ]
  refine zaa 1 (v:=?_) rfl (by kernel_rfl) (by kernel_rfl) (by kernel_rfl) (by kernel_rfl) (fun _ _ _ h=>h) hHeld (by rfl) ?_ ?_
  rotate_left
  ·intro wz hSz
   (try dsimp only at hSz)
   go_simp
   try with_reducible rfl
  try simp only[Act.put,List.setIfInBounds_toArray,List.set_cons_zero,List.set_cons_succ]
  refine zaa 2 (v:=?_) rfl (by kernel_rfl) (by kernel_rfl) (by kernel_rfl) (by kernel_rfl) (fun _ _ _ h=>h) hHeld (by rfl) ?_ ?_
  rotate_left
  ·intro wz hSz
   (try dsimp only at hSz)
   go_simp
   try with_reducible rfl
  try simp only[Act.put,List.setIfInBounds_toArray,List.set_cons_zero,List.set_cons_succ]
  refine zaa 3 (v:=?_) rfl (by kernel_rfl) (by kernel_rfl) (by kernel_rfl) (by kernel_rfl) (fun _ _ _ h=>h) hHeld (by rfl) ?_ ?_
  rotate_left
  ·intro wz hSz
   (try dsimp only at hSz)
   go_simp
   try with_reducible rfl
  try simp only[Act.put,List.setIfInBounds_toArray,List.set_cons_zero,List.set_cons_succ]
  refine zaa 4 (v:=?_) rfl (by kernel_rfl) (by kernel_rfl) (by kernel_rfl) (by kernel_rfl) (fun _ _ _ h=>h) hHeld (by rfl) ?_ ?_
  rotate_left
  ·intro wz hSz
   (try dsimp only at hSz)
   go_simp
   try with_reducible rfl
  try simp only[Act.put,List.setIfInBounds_toArray,List.set_cons_zero,List.set_cons_succ]
  refine zaa 5 (v:=?_) rfl (by kernel_rfl) (by kernel_rfl) (by kernel_rfl) (by kernel_rfl) (fun _ _ _ h=>h) hHeld (by rfl) ?_ ?_
  rotate_left
  ·intro wz hSz
   (try dsimp only at hSz)
   go_simp
   try with_reducible rfl
  try simp only[Act.put,List.setIfInBounds_toArray,List.set_cons_zero,List.set_cons_succ]
  refine zaa 6 (v:=?_) rfl (by kernel_rfl) (by kernel_rfl) (by kernel_rfl) (by kernel_rfl) (fun _ _ _ h=>h) hHeld (by rfl) ?_ ?_
  rotate_left
  ·intro wz hSz
   (try dsimp only at hSz)
   go_simp
   try with_reducible rfl
  try simp only[Act.put,List.setIfInBounds_toArray,List.set_cons_zero,List.set_cons_succ]
  refine zaa 7 (v:=?_) rfl (by kernel_rfl) (by kernel_rfl) (by kernel_rfl) (by kernel_rfl) (fun _ _ _ h=>h) hHeld (by rfl) ?_ ?_
  rotate_left
  ·intro wz hSz
   (try dsimp only at hSz)
   go_simp
   try with_reducible rfl
  try simp only[Act.put,List.setIfInBounds_toArray,List.set_cons_zero,List.set_cons_succ]
  refine zaa 8 (v:=?_) rfl (by kernel_rfl) (by kernel_rfl) (by kernel_rfl) (by kernel_rfl) (fun _ _ _ h=>h) hHeld (by rfl) ?_ ?_
  rotate_left
  ·intro wz hSz
   (try dsimp only at hSz)
   go_simp
   try with_reducible rfl
  try simp only[Act.put,List.setIfInBounds_toArray,List.set_cons_zero,List.set_cons_succ]
  refine zaa 9 (v:=?_) rfl (by kernel_rfl) (by kernel_rfl) (by kernel_rfl) (by kernel_rfl) (fun _ _ _ h=>h) hHeld (by rfl) ?_ ?_
  rotate_left
  ·intro wz hSz
   (try dsimp only at hSz)
   go_simp
   try with_reducible rfl
  try simp only[Act.put,List.setIfInBounds_toArray,List.set_cons_zero,List.set_cons_succ]
  refine zaa 10 (v:=?_) rfl (by kernel_rfl) (by kernel_rfl) (by kernel_rfl) (by kernel_rfl) (fun _ _ _ h=>h) hHeld (by rfl) ?_ ?_
  rotate_left
  ·intro wz hSz
   (try dsimp only at hSz)
   go_simp
   try with_reducible rfl
  try simp only[Act.put,List.setIfInBounds_toArray,List.set_cons_zero,List.set_cons_succ]
  refine zaf 11 rfl (by kernel_rfl) (fun K hK=>?_)
  go_simp
  go_at_call 161
  refine(HC.out W2.drew hgo0).mono ?_
  rintro en' w3 ⟨he',hb3⟩
  have hf3:Fr NoT W2 w3:=hgo0.trans (Fr.below hb3)
  by_cases hf0:f.1=0
  ·rw[if_pos hf0]at he'
   subst he'
   have hs3:=HS.out _ _ hf3 id id id
   have hbk3:=HBK.out.fr0 hf3
   have v0:=hbk3.cell en
   have v1:=hbk3.frozen en
   have hVl:=hbk3.lt
   simp only[intL,List.getElem?_toArray,List.getElem?_map,HYY.out,Option.map_some]at v0
   have HF3:=hdq hf3
   try dsimp only
   refine hK.out _ _ hs3 ?_
   clear hK K
   try simp only[Act.put,List.setIfInBounds_toArray,List.set_cons_zero,List.set_cons_succ]
   clear hHeld
   have hHeld:=hs3
   refine zaf 12 rfl (by kernel_rfl) (fun K hK=>?_)
   go_simp
   refine hK.out _ _ hs3 ?_
   clear hK K
   refine zaf 13 rfl (by kernel_rfl) (fun K hK=>?_)
   go_simp
   have h1:=(HR2.out.fr0 HF3.out).setV en h64v
   rw[←HY.out]at h1
   have hfs:Fr (fun b=>b=Y) w3 (w3.setCell ⟨Y,en,none⟩ (.int .i64 v)):=Fr.own (Fr.refl _ _) _ _
   refine hK.out _ _ (HS.out (fun b=>b=Y) _ (HF3.out.any.trans hfs) (by omega) (by omega) (by have:=HH.out.lt;omega)) ?_
   clear hK K
   refine za3 (by kernel_rfl) ?_
   have HPP:=hdq (show zdJ m s e i w (.returned (.pointer none)) (w3.setCell ⟨Y,en,none⟩ (.int .i64 v))from zcI (HF2.out.any.trans (HF3.out.any.trans h1.2)) (by rw[doE,←HEK.out,if_neg (by decide),if_neg (by decide),if_neg (by decide),HFL.out];simp only;rw[if_neg (by simpa using hf0),HVX.out,HEN.out];simp) h1.1)
   clear h1 hfs hHeld hs3 hbk3 v0 v1 hf0
   go_wp2_with fail
   go_ret
   exact HPP.out
  ·rw[if_neg hf0]at he'
   subst he'
   have HPP:=hdq (show zdJ m s e i w (fault 246 f) w3 from zbC (HF2.out.any.trans hf3.any) hf0 rfl (by rw[doE,←HEK.out,if_neg (by decide),if_neg (by decide),if_neg (by decide),HFL.out];simp only;rw[if_pos hf0]) (HR2.out.fr0 hf3))
   clear hf0 hHeld
   exact⟨rfl,HPP.out⟩
 have b3:(ek==3)=false:=by simpa using k3
 by_cases k4:ek=4
 ·subst k4
  obtain⟨a0,a1,a2,a3,a4,b0,b1,b2,b3,b4,hxe⟩:=zkw (HMA.out.2.1 HEK.out.symm)
  subst hxe
  obtain rfl:xl=2:=HXL.out
  obtain⟨bx,ox,rfl,hat⟩:=HX5.out.2.2 (by simp[Exs.len])
  obtain⟨hbB,y0,y1,y2,⟨A',c',y3,hlc,hc9,hsl⟩,y4,r0,r1,r2,_,z0,z1,z2,⟨B',d',z3,hlc2,hc92,hsl2⟩,z4,_⟩:=hat.keep (Same.of_fr HF2.out HH.out.lt fun _ h=>h.elim)
  have hbxw:bx < W2.heap.size:=by have:=HH.out.lt;omega
  have hslx:ExSl W2 w.heap.size a3 A' c':=(show ExSl W2 m.c.L a3 A' c' from⟨hlc,hc9,hsl⟩).more HH.out.lt
  have hsly:ExSl W2 w.heap.size b3 B' d':=(show ExSl W2 m.c.L b3 B' d' from⟨hlc2,hc92,hsl2⟩).more HH.out.lt
  obtain⟨l3,hl3⟩:=nmq a3.len
  obtain⟨l4,hl4⟩:=nmq b3.len
  have hcall:∀W,Fr NoT W2 W→Calls Tryz.prog 161 #[.agg #[.slice (some ⟨Y,0,none⟩) n1 n1,.slice m.c.Ar n2 m.c.cr],.agg #[.int .u8 a0,.string a1,.int .i64 a2,.slice A' l3 c',.int .i64 a4]] W (zay 246 (zar s.vs s.ls a0 a2 (zag s.vs s.ls a3)) (zao s.vs s.ls a0 a2 a3 a4) W):=fun W hW=>by
   rw[hl3,HY.out,HN1.out,HN2.out]
   exact HASK.out 0 a0 a1 a2 a3 a4 _ rfl W A' c' (Nat.le_trans HF2.out.size hW.size) (HH.out.sto.stSl.keep (Same.of_fr (HF2.out.trans hW) (Nat.le_refl _) fun _ h=>h.elim)) (hslx.keep (Same.of_fr hW HF2.out.size fun _ h=>h.elim))
  have hcall2:∀W,Fr NoT W2 W→Calls Tryz.prog 161 #[.agg #[.slice (some ⟨Y,0,none⟩) n1 n1,.slice m.c.Ar n2 m.c.cr],.agg #[.int .u8 b0,.string b1,.int .i64 b2,.slice B' l4 d',.int .i64 b4]] W (zay 246 (zar s.vs s.ls b0 b2 (zag s.vs s.ls b3)) (zao s.vs s.ls b0 b2 b3 b4) W):=fun W hW=>by
   rw[hl4,HY.out,HN1.out,HN2.out]
   exact HASK.out 1 b0 b1 b2 b3 b4 .nil rfl W B' d' (Nat.le_trans HF2.out.size hW.size) (HH.out.sto.stSl.keep (Same.of_fr (HF2.out.trans hW) (Nat.le_refl _) fun _ h=>h.elim)) (hsly.keep (Same.of_fr hW HF2.out.size fun _ h=>h.elim))
  rw[←hl3]at y3
  rw[←hl4]at z3
  have hS:∀(T:Nat→Prop) (W':World),Fr T W2 W'→¬T (w.heap.size+1)→¬T w.heap.size→¬T bx→(W'.cell? ⟨w.heap.size+1,0,none⟩=some (.slice (some ⟨Y,0,none⟩) n1 n1)∧W'.cell? ⟨w.heap.size+1,1,none⟩=some (.slice m.c.Ar n2 m.c.cr)∧W'.cell? ⟨w.heap.size,5,none⟩=some (.slice (some ⟨bx,ox,none⟩) 2 c5)∧W'.cell? ⟨bx,ox,none⟩=some (.int .u8 a0)∧W'.cell? ⟨bx,ox+1,none⟩=some (.string a1)∧W'.cell? ⟨bx,ox+2,none⟩=some (.int .i64 a2)∧W'.cell? ⟨bx,ox+3,none⟩=some (.slice A' l3 c')∧W'.cell? ⟨bx,ox+4,none⟩=some (.int .i64 a4)∧W'.cell? ⟨bx,ox+5,none⟩=some (.int .u8 b0)∧W'.cell? ⟨bx,ox+5+1,none⟩=some (.string b1)∧W'.cell? ⟨bx,ox+5+2,none⟩=some (.int .i64 b2)∧W'.cell? ⟨bx,ox+5+3,none⟩=some (.slice B' l4 d')∧W'.cell? ⟨bx,ox+5+4,none⟩=some (.int .i64 b4)):=fun T W' hf u1 u2 u3=>⟨(hf.cell (p:=⟨w.heap.size+1,0,none⟩) hS1 u1).trans t0,(hf.cell (p:=⟨w.heap.size+1,1,none⟩) hS1 u1).trans t1,(hf.cell (p:=⟨w.heap.size,5,none⟩) hS0 u2).trans d5,(hf.cell (p:=⟨bx,ox,none⟩) hbxw u3).trans y0,(hf.cell (p:=⟨bx,ox+1,none⟩) hbxw u3).trans y1,(hf.cell (p:=⟨bx,ox+2,none⟩) hbxw u3).trans y2,(hf.cell (p:=⟨bx,ox+3,none⟩) hbxw u3).trans y3,(hf.cell (p:=⟨bx,ox+4,none⟩) hbxw u3).trans y4,(hf.cell (p:=⟨bx,ox+5,none⟩) hbxw u3).trans z0,(hf.cell (p:=⟨bx,ox+5+1,none⟩) hbxw u3).trans z1,(hf.cell (p:=⟨bx,ox+5+2,none⟩) hbxw u3).trans z2,(hf.cell (p:=⟨bx,ox+5+3,none⟩) hbxw u3).trans z3,(hf.cell (p:=⟨bx,ox+5+4,none⟩) hbxw u3).trans z4⟩
  have HS:=hdq hS
  have HC:=hdq hcall
  have HC2:=hdq hcall2
  have hen2:en < n2:=by have:=HM.out.n.2.2.2 HEK.out.symm;rw[←HH.out.na]at this;rw[HEN.out]at this;rw[HN2.out];omega
  have hen2':(en:Int) < (n2:Int):=by omega
  have hen0:(0:Int)≤(en:Int):=by omega
  obtain⟨l,hl⟩:∃l,s.ls[en]?=some l:=⟨_,List.getElem?_eq_getElem (by rw[←HN2.out];exact hen2)⟩
  obtain⟨f,hf⟩:=nmq (zao s.vs s.ls a0 a2 a3 a4)
  obtain⟨v,hv⟩:=nmq (zar s.vs s.ls a0 a2 (zag s.vs s.ls a3))
  obtain⟨f',hf'⟩:=nmq (zao s.vs s.ls b0 b2 b3 b4)
  obtain⟨u,hu⟩:=nmq (zar s.vs s.ls b0 b2 (zag s.vs s.ls b3))
  rw[←hf,←hv]at HC
  rw[←hf',←hu]at HC2
  have HFL:=hdq (show fltX s.vs s.ls e.args=if f.1=0 then f' else f from by
   rw[←HXS.out,hf,hf',zbm]
   split
   ·rw[zbm]
    split
    ·rename_i h0;rw[zcl h0];rfl
    ·rfl
   ·rfl)
  have HVX:=hdq (show(zag s.vs s.ls e.args).getD 0 0=v∧(zag s.vs s.ls e.args).getD 1 0=u from by rw[←HXS.out,hv,hu];exact⟨rfl,rfl⟩)
  have h64u:is64 u:=by
   have hm0:((zag s.vs s.ls (Exs.cons a0 a1 a2 a3 a4 (.cons b0 b1 b2 b3 b4 .nil)))).getD 1 0=u:=by rw[hu];rfl
   rw[←hm0];exact zbn (zbe HH.out.sto.i64 HNS.out) 1
  have HLL:=hdq hl
  have HLD:=hdq (show s.ls.getD e.n.toNat []=l from by rw[HEN.out,Int.toNat_natCast,List.getD_eq_getElem?_getD,hl];rfl)
  have hlf:l.length≤1000:=HH.out.sto.few.2.2 l (List.mem_of_getElem? hl)
  clear hcall hcall2 hat hsl hslx hlc hc9 hsl2 hsly hlc2 hc92 hS hl hf hv hf' hu hl3 hl4
  have hgo0:(Fr NoT W2 W2.drew):=(Fr.refl _ _).drew
  go_wp2_with fail
  rw[←HW2.out]
  refine zaE (fun W'=>W'.cell? ⟨w.heap.size+1,0,none⟩=some (.slice (some ⟨Y,0,none⟩) n1 n1)∧W'.cell? ⟨w.heap.size+1,1,none⟩=some (.slice m.c.Ar n2 m.c.cr)∧W'.cell? ⟨w.heap.size,5,none⟩=some (.slice (some ⟨bx,ox,none⟩) 2 c5)∧W'.cell? ⟨bx,ox,none⟩=some (.int .u8 a0)∧W'.cell? ⟨bx,ox+1,none⟩=some (.string a1)∧W'.cell? ⟨bx,ox+2,none⟩=some (.int .i64 a2)∧W'.cell? ⟨bx,ox+3,none⟩=some (.slice A' l3 c')∧W'.cell? ⟨bx,ox+4,none⟩=some (.int .i64 a4)∧W'.cell? ⟨bx,ox+5,none⟩=some (.int .u8 b0)∧W'.cell? ⟨bx,ox+5+1,none⟩=some (.string b1)∧W'.cell? ⟨bx,ox+5+2,none⟩=some (.int .i64 b2)∧W'.cell? ⟨bx,ox+5+3,none⟩=some (.slice B' l4 d')∧W'.cell? ⟨bx,ox+5+4,none⟩=some (.int .i64 b4)) 16 (by kernel_rfl) (HS.out _ _ hgo0 id id id) (fun hHeld=>?_)
  refine zaa 0 (v:=?_) rfl (by kernel_rfl) (by kernel_rfl) (by kernel_rfl) (by kernel_rfl) (fun _ _ _ h=>h) hHeld (by rfl) ?_ ?_
  rotate_left
  ·intro wz hSz
   (try dsimp only at hSz)
   go_simp
   try with_reducible rfl
  try simp only[Act.put,List.setIfInBounds_toArray,List.set_cons_zero,List.set_cons_succ]
  refine zaa 1 (v:=?_) rfl (by kernel_rfl) (by kernel_rfl) (by kernel_rfl) (by kernel_rfl) (fun _ _ _ h=>h) hHeld (by rfl) ?_ ?_
  rotate_left
  ·intro wz hSz
   (try dsimp only at hSz)
   go_simp
   try with_reducible rfl
  try simp only[Act.put,List.setIfInBounds_toArray,List.set_cons_zero,List.set_cons_succ]
  refine zaa 2 (v:=?_) rfl (by kernel_rfl) (by kernel_rfl) (by kernel_rfl) (by kernel_rfl) (fun _ _ _ h=>h) hHeld (by rfl) ?_ ?_
  rotate_left
  ·intro wz hSz
   (try dsimp only at hSz)
   go_simp
   try with_reducible rfl
  try simp only[Act.put,List.setIfInBounds_toArray,List.set_cons_zero,List.set_cons_succ]
  refine zaa 3 (v:=?_) rfl (by kernel_rfl) (by kernel_rfl) (by kernel_rfl) (by kernel_rfl) (fun _ _ _ h=>h) hHeld (by rfl) ?_ ?_
  rotate_left
  ·intro wz hSz
   (try dsimp only at hSz)
   go_simp
   try with_reducible rfl
  try simp only[Act.put,List.setIfInBounds_toArray,List.set_cons_zero,List.set_cons_succ]
  refine zaa 4 (v:=?_) rfl (by kernel_rfl) (by kernel_rfl) (by kernel_rfl) (by kernel_rfl) (fun _ _ _ h=>h) hHeld (by rfl) ?_ ?_
  rotate_left
  ·intro wz hSz
   (try dsimp only at hSz)
   go_simp
   try with_reducible rfl
  try simp only[Act.put,List.setIfInBounds_toArray,List.set_cons_zero,List.set_cons_succ]
  refine zaa 5 (v:=?_) rfl (by kernel_rfl) (by kernel_rfl) (by kernel_rfl) (by kernel_rfl) (fun _ _ _ h=>h) hHeld (by rfl) ?_ ?_
  rotate_left
  ·intro wz hSz
   (try dsimp only at hSz)
   go_simp
   try with_reducible rfl
  try simp only[Act.put,List.setIfInBounds_toArray,List.set_cons_zero,List.set_cons_succ]
  refine zaa 7 (v:=?_) rfl (by kernel_rfl) (by kernel_rfl) (by kernel_rfl) (by kernel_rfl) (fun _ _ _ h=>h) hHeld (by rfl) ?_ ?_
  rotate_left
  ·intro wz hSz
   (try dsimp only at hSz)
   go_simp
   try with_reducible rfl
  try simp only[Act.put,List.setIfInBounds_toArray,List.set_cons_zero,List.set_cons_succ]
  refine zaa 8 (v:=?_) rfl (by kernel_rfl) (by kernel_rfl) (by kernel_rfl) (by kernel_rfl) (fun _ _ _ h=>h) hHeld (by rfl) ?_ ?_
  rotate_left
  ·intro wz hSz
   (try dsimp only at hSz)
   go_simp
   try with_reducible rfl
  try simp only[Act.put,List.setIfInBounds_toArray,List.set_cons_zero,List.set_cons_succ]
  refine zaa 9 (v:=?_) rfl (by kernel_rfl) (by kernel_rfl) (by kernel_rfl) (by kernel_rfl) (fun _ _ _ h=>h) hHeld (by rfl) ?_ ?_
  rotate_left
  ·intro wz hSz
   (try dsimp only at hSz)
   go_simp
   try with_reducible rfl
  try simp only[Act.put,List.setIfInBounds_toArray,List.set_cons_zero,List.set_cons_succ]
  refine zaa 10 (v:=?_) rfl (by kernel_rfl) (by kernel_rfl) (by kernel_rfl) (by kernel_rfl) (fun _ _ _ h=>h) hHeld (by rfl) ?_ ?_
  rotate_left
  ·intro wz hSz
   (try dsimp only at hSz)
   go_simp
   try with_reducible rfl
  try simp only[Act.put,List.setIfInBounds_toArray,List.set_cons_zero,List.set_cons_succ]
  refine zaa 11 (v:=?_) rfl (by kernel_rfl) (by kernel_rfl) (by kernel_rfl) (by kernel_rfl) (fun _ _ _ h=>h) hHeld (by rfl) ?_ ?_
  rotate_left
  ·intro wz hSz
   (try dsimp only at hSz)
   go_simp
   try with_reducible rfl
  try simp only[Act.put,List.setIfInBounds_toArray,List.set_cons_zero,List.set_cons_succ]
  refine zaa 12 (v:=?_) rfl (by kernel_rfl) (by kernel_rfl) (by kernel_rfl) (by kernel_rfl) (fun _ _ _ h=>h) hHeld (by rfl) ?_ ?_
  rotate_left
  ·intro wz hSz
   (try dsimp only at hSz)
   go_simp
   try with_reducible rfl
  try simp only[Act.put,List.setIfInBounds_toArray,List.set_cons_zero,List.set_cons_succ]
  refine zaf 6 rfl (by kernel_rfl) (fun K hK=>?_)
  go_simp
  go_at_call 161
  refine(HC.out W2.drew hgo0).mono ?_
  rintro en' w3 ⟨he',hb3⟩
  have hf3:Fr NoT W2 w3:=hgo0.trans (Fr.below hb3)
  by_cases hf0:f.1=0
  ·rw[if_pos hf0]at he'
   subst he'
   have hs3:=HS.out _ _ hf3 id id id
   have HF3:=hdq hf3
   have HF0:=hdq hf0
   try dsimp only
   refine hK.out _ _ hs3 ?_
   clear hK K
   try simp only[Act.put,List.setIfInBounds_toArray,List.set_cons_zero,List.set_cons_succ]
   clear hHeld hf0 hb3
   have hHeld:=hs3
   refine zaf 13 rfl (by kernel_rfl) (fun K hK=>?_)
   go_simp
   go_at_call 161
   refine(HC2.out w3 hf3).mono ?_
   rintro en' w4 ⟨he',hb4⟩
   have hf4:Fr NoT W2 w4:=hf3.trans (Fr.below hb4)
   by_cases hf0:f'.1=0
   ·rw[if_pos hf0]at he'
    subst he'
    have HF4:=hdq hf4
    have hs4:=HS.out _ _ hf4 id id id
    have HFX:=hdq (show(fltX s.vs s.ls e.args).1 =0 from by rw[HFL.out,if_pos HF0.out];exact hf0)
    have hr4:=HR2.out.fr0 hf4
    obtain⟨g,bb,hAr,ga,hgl,hgL,hbs,hbb⟩:=hr4.sto.arr HLL.out
    have HDO:=hdq (show doE s e i=if 0≤v∧v < (l.length:Int)then .inl {s with ls:=s.ls.set en (l.set v.toNat u)}else .inr (s.stop 5 5 ea i)from by
     rw[doE,←HEK.out,if_neg (by decide),if_neg (by decide),if_neg (by decide)]
     simp only
     rw[if_neg (by rw[HFX.out];decide),if_neg (by decide),HVX.out.1,HVX.out.2,HLD.out,HEN.out,HEA.out]
     simp)
    have d3':=(hf4.cell (p:=⟨w.heap.size,3,none⟩) hS0 id).trans d3
    have d6':=(hf4.cell (p:=⟨w.heap.size,6,none⟩) hS0 id).trans d6
    have t1':=(hf4.cell (p:=⟨w.heap.size+1,1,none⟩) hS1 id).trans t1
    have hS0':=hf4.low hS0
    have hS1':=hf4.low hS1
    rw[hAr]at t1'
    obtain⟨ll,hll⟩:=nmq l.length
    rw[←hll]at ga hlf HDO
    have HLN:=hdq hll
    have HR4:=hdq hr4
    have HBS:=hdq hbs
    have HBB:=hdq hbb
    have HF24:=hdq (HF2.out.trans hf4)
    have hbbl:=hbb.lt
    try dsimp only
    refine hK.out _ _ hs4 ?_
    clear hK K hHeld
    have hHeld:=hs4
    try simp only[Act.put,List.setIfInBounds_toArray,List.set_cons_zero,List.set_cons_succ]
    refine zaf 14 rfl (by kernel_rfl) (fun K hK=>?_)
    go_simp
    refine hK.out _ _ hs4 ?_
    clear hK K
    refine zaf 15 rfl (by kernel_rfl) (fun K hK=>?_)
    go_simp
    refine hK.out _ _ hs4 ?_
    clear hK K
    refine za3 (by kernel_rfl) ?_
    clear hHeld hs4 hf4 hr4 hAr hll hbs hbb hf0 hf3 hs3 hb4
    by_cases hx0:v < 0
    ·have HPP:=hdq (show zdJ m s e i w (fault 246 (5,ea)) w4 from zbC HF24.out.any (by show(5:Int)≠0;decide) rfl (by rw[HDO.out,if_neg (by omega)]) HR4.out)
     go_wp2_with fail
     exact⟨rfl,HPP.out⟩
    ·obtain⟨xn,rfl⟩:∃n:Nat,v=n:=⟨v.toNat,by omega⟩
     have hx0':(0:Int)≤(xn:Int):=by omega
     by_cases hx1:xn < ll
     ·have hx1':(xn:Int) < (ll:Int):=by omega
      have h1:=HR4.out.setA HBS.out HLL.out xn h64u
      have HPP:=hdq (show zdJ m s e i w (.returned (.pointer none)) (w4.setCell ⟨bb,xn,none⟩ (.int .i64 u))from zcI (HF24.out.any.trans h1.2) (by rw[HDO.out,if_pos (by omega)];rfl) h1.1)
      have u0:=HBB.out.cell xn
      have u1:=HBB.out.frozen xn
      obtain⟨z0',hz0⟩:∃z,l[xn]?=some z:=⟨_,List.getElem?_eq_getElem (by rw[←HLN.out];exact hx1)⟩
      simp only[intL,List.getElem?_toArray,List.getElem?_map,hz0,Option.map_some]at u0
      clear hz0 h1
      go_wp2_with fail
      go_ret
      exact HPP.out
     ·have hx1':¬(xn:Int) < (ll:Int):=by omega
      have hx1'':(ll:Int)≤(xn:Int):=by omega
      have HPP:=hdq (show zdJ m s e i w (fault 246 (5,ea)) w4 from zbC HF24.out.any (by show(5:Int)≠0;decide) rfl (by rw[HDO.out,if_neg (by omega)]) HR4.out)
      go_wp2_with fail
      exact⟨rfl,HPP.out⟩
   ·rw[if_neg hf0]at he'
    subst he'
    have HPP:=hdq (show zdJ m s e i w (fault 246 f') w4 from zbC (HF2.out.any.trans hf4.any) hf0 rfl (by rw[doE,←HEK.out,if_neg (by decide),if_neg (by decide),if_neg (by decide),HFL.out];simp only;rw[if_pos HF0.out,if_pos hf0]) (HR2.out.fr0 hf4))
    exact⟨rfl,HPP.out⟩
  ·rw[if_neg hf0]at he'
   subst he'
   have HPP:=hdq (show zdJ m s e i w (fault 246 f) w3 from zbC (HF2.out.any.trans hf3.any) hf0 rfl (by rw[doE,←HEK.out,if_neg (by decide),if_neg (by decide),if_neg (by decide),HFL.out];simp only;rw[if_neg hf0,if_pos hf0]) (HR2.out.fr0 hf3))
   exact⟨rfl,HPP.out⟩
 have b4:(ek==4)=false:=by simpa using k4
 have HFX:=hdq (show doE s e i= .inl s from by
  have hl0:e.args.len=0:=by
   rw[←HXS.out]
   have h6':=H6.out
   have:=HM.out.k
   have h1:=HMA.out.2.2.2.1
   have h2:=HMA.out.2.2.2.2
   rw[←HEK.out]at this h6' h1 h2
   by_cases e1:ek=1
   ·exact h1 e1
   ·exact h2 (by omega)
  have hn:e.args= .nil :=by
   cases ha:e.args with
   |nil=>rfl
   |cons a b c d e f=>rw[ha]at hl0;simp[Exs.len]at hl0
  rw[doE,←HEK.out,if_neg k7,if_neg k8,if_neg k5,hn]
  simp[fltX,k3,k4])
 go_wp2_with fail
 go_ret
 rw[←HW2.out]
 exact zcI HF2.out.any HFX.out HR2.out
end Go.Proofs.YtobegfbdedgmpaaGreatDoor
