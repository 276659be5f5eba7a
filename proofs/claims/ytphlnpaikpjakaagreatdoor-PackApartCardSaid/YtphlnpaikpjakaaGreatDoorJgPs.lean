/-
  parse.Parse: a text's tokens and where it ends, as a parser's state. No walk.
-/
import Derived.Test.YtphlnpaikpjakaaGreatDoorJgTre
import Derived.Defers
import Derived.Recover
set_option linter.unusedVariables false
set_option linter.unusedSimpArgs false
namespace Go.Proofs.YtphlnpaikpjakaaGreatDoor
open Go.RowKit Go.Shelf

theorem lies_count {s:List UInt8}:∀ {ts:List Tk} {p:Nat},Lies s p ts→ts.length+p≤s.length
 | [],p,h=>by have:=h.2;simpa using this
 |t::r,p,h=>by
  obtain⟨h1,h2,h3,_,_,_,h7⟩:=h
  have:=lies_count h7
  rw[List.length_cons]
  omega
theorem lies_at {s:List UInt8}:∀ {ts:List Tk} {p:Nat},Lies s p ts→∀t∈ts,t.at_+t.text.length≤s.length
 | [],_,_,t,ht=>by simp at ht
 |a::r,p,h,t,ht=>by
  obtain⟨_,h2,_,_,_,h6,h7⟩:=h
  rcases List.mem_cons.1 ht with rfl|ht
  ·exact h2
  ·exact lies_at h7 t ht
def endT (s:List UInt8):Tk:=⟨0, [],s.length⟩
theorem pcx_ok {W:World} {P TB:Nat} {s:List UInt8} (he:NameEnv W) (h:(toks s).2.2 =0) (hP:W.heap.size≤P) (hT:W.heap.size≤TB) (hne:P≠TB):Pcx.Ok ⟨W,P,TB,(toks s).1 ++ [endT s]⟩:=by
 obtain⟨hl,hs⟩:=toks_lies h
 have hc:=lies_count hl
 have ha:=lies_at hl
 have hall:∀t∈(toks s).1 ++ [endT s],t∈(toks s).1 ∨t=endT s:=fun t ht=>by simpa using ht
 refine⟨he,hP,hne,hT,fun t ht=>?_,fun t ht=>?_,fun t ht=>?_,?_,fun i t ht hi=>?_⟩
 ·rcases hall t ht with h|rfl
  ·exact .inl (hl.each t h)
  ·exact .inr ⟨rfl,rfl⟩
 ·rcases hall t ht with h|rfl
  ·have:=ha t h;omega
  ·exact Nat.zero_le _
 ·rcases hall t ht with h|rfl
  ·have:=ha t h;omega
  ·exact hs
 ·show((toks s).1 ++ [endT s]).length ≤5000
  rw[List.length_append,List.length_cons,List.length_nil];omega
 ·have hi:i=(toks s).1.length :=by
   have hi:i+1=((toks s).1 ++ [endT s]).length :=hi
   rw[List.length_append,List.length_cons,List.length_nil]at hi;omega
  have ht:((toks s).1 ++ [endT s])[i]?=some t:=ht
  rw[hi,List.getElem?_append_right (lrq _),Nat.sub_self]at ht
  have ht:endT s=t:=by simpa using ht
  subst ht
  exact⟨rfl,rfl⟩
theorem flat3:∀(l:List Tk) (i:Nat) (t:Tk),l[i]?=some t→∀k,k < 3→(l.flatMap tkC)[i*3+k]?=(tkC t)[k]?
 | [],i,t,h,k,hk=>by simp at h
 |a::l,0,t,h,k,hk=>by
  have h:a=t:=by simpa using h
  subst h
  rw[List.flatMap_cons,List.getElem?_append_left (by simp[tkC];omega)]
  simp
 |a::l,i+1,t,h,k,hk=>by
  rw[List.flatMap_cons,List.getElem?_append_right (by simp[tkC];omega)]
  have:=flat3 l i t (by simpa using h) k hk
  rw[←this]
  congr 1
  simp[tkC];omega
theorem pa_start {W w:World} {P g cap n base:Nat} {s:List UInt8} (hb:Below W.heap.size W w) (hn:n=(toks s).1.length +1) (ho:w.ownsRow base 76 3 (.slice (some ⟨g,0,none⟩) n cap) n (((toks s).1 ++ [endT s]).flatMap tkC)) (hc:n≤cap) (hm:cap≤9223372036854775807)
  (hP:Bk w P 78 #[.slice (some ⟨g,0,none⟩) n cap,.int .i64 0]):PaAt ⟨W,P,g,(toks s).1 ++ [endT s]⟩ w ((toks s).1 ++ [endT s]) 0:=by
 subst hn
 have hlen:((toks s).1 ++ [endT s]).length =(toks s).1.length +1:=by simp
 refine⟨hb,fun i t ht k hk=>?_,ho.lt g rfl |>.2,by simp,0,cap,rfl,by rw[hlen];exact hc,hm,?_⟩
 ·have ht:((toks s).1 ++ [endT s])[i]?=some t:=ht
  have hi:=(List.getElem?_eq_some_iff.1 ht).1
  have:=ho.cellAt (i*3+k) (by rw[hlen]at hi;omega)
  rw[flat3 _ i t ht k hk]at this
  exact this
 ·show Bk w P _ #[.slice (some ⟨g,0*3,none⟩) ((toks s).1 ++ [endT s]).length cap,.int .i64 ((0:Nat):Int)]
  rw[hlen]
  exact hP

theorem parse1_idle (p q r:Addr) (w:World):
  CallsD Tryz.prog 28 #[.pointer (some p),.pointer (some q),.pointer (some r)] .returning w fun e u' w'=>e= .returned (.tuple #[])∧u'= .returning ∧w'=w:=by
 refine callsD_of_wpS Tryz.func28 rfl fun c₀ cs hu=>?_
 simp only[Tryz.ntmps28,List.size_toArray,List.length_cons,List.length_nil,Nat.reduceAdd,Nat.reduceSub,Array.replicate_succ,Array.replicate_zero,List.push_toArray,List.append_toArray,List.nil_append,List.cons_append]
 apply wpS_seq
 apply wpS_region
 generalize hK:Exit.thenS _ _=K
 have HK:=hdq hK
 clear hK
 simp[wpOpsS,go_sem,recoverD,hu]
 have HK2:=HK.out
 clear HK
 subst HK2
 simp only[Exit.thenS]
 refine wpS_of_wp ?_
 generalize hQ:(fun e a' w'=>bodyPostS _ _ _ _ _ e a' _ w')=Q
 have HQ:=hdq hQ
 clear hQ
 go_wp2
 have HQ2:=HQ.out
 clear HQ
 subst HQ2
 cases c₀
 simp_all [bodyPostS,results,Tryz.results28]

def Box3 (w:World) (B:Nat) (cs:Array Value) (a e:Int):Prop:=Bk w B 49 cs∧Bk w (B+1) 3 #[.int .i64 a]∧Bk w (B+2) 23 #[.int .i64 e]
theorem Box3.fr {w w':World} {B:Nat} {cs:Array Value} {a e:Int} {T:Nat→Prop} (h:Box3 w B cs a e) (hf:Fr T w w') (h0:¬T B) (h1:¬T (B+1)) (h2:¬T (B+2)):Box3 w' B cs a e:=
 ⟨h.1.fr hf h0,h.2.1.fr hf h1,h.2.2.fr hf h2⟩
theorem Box3.fr0 {w w':World} {B:Nat} {cs:Array Value} {a e:Int} (h:Box3 w B cs a e) (hf:Fr NoT w w'):Box3 w' B cs a e:=h.fr hf id id id
theorem Box3.at_ {w:World} {B:Nat} {cs:Array Value} {a e:Int} (h:Box3 w B cs a e) (a':Int):Box3 (w.setCell ⟨B+1,0,none⟩ (.int .i64 a')) B cs a' e:=
 ⟨h.1.far (p:=⟨B+1,0,none⟩) (by show B≠B+1;omega) _,by simpa using h.2.1.set_ 0 (.int .i64 a'),h.2.2.far (p:=⟨B+1,0,none⟩) (by show B+2≠B+1;omega) _⟩
theorem Box3.er {w:World} {B:Nat} {cs:Array Value} {a e:Int} (h:Box3 w B cs a e) (e':Int):Box3 (w.setCell ⟨B+2,0,none⟩ (.int .i64 e')) B cs a e':=
 ⟨h.1.far (p:=⟨B+2,0,none⟩) (by show B≠B+2;omega) _,h.2.1.far (p:=⟨B+2,0,none⟩) (by show B+1≠B+2;omega) _,by simpa using h.2.2.set_ 0 (.int .i64 e')⟩
theorem Box3.tr {w:World} {B:Nat} {v0 v1 v2 v3:Value} {a e:Int} (h:Box3 w B #[v0,v1,v2,v3] a e) (u0 u1 u2 u3:Value):Box3 ((((w.setCell ⟨B,0,none⟩ u0).setCell ⟨B,1,none⟩ u1).setCell ⟨B,2,none⟩ u2).setCell ⟨B,3,none⟩ u3) B #[u0,u1,u2,u3] a e:=by
 have n3:B+1≠B:=by omega
 have n5:B+2≠B:=by omega
 refine⟨by simpa using (((h.1.set_ 0 u0).set_ 1 u1).set_ 2 u2).set_ 3 u3,?_,?_⟩
 ·exact(((h.2.1.far (p:=⟨B,0,none⟩) n3 u0).far (p:=⟨B,1,none⟩) n3 u1).far (p:=⟨B,2,none⟩) n3 u2).far (p:=⟨B,3,none⟩) n3 u3
 ·exact(((h.2.2.far (p:=⟨B,0,none⟩) n5 u0).far (p:=⟨B,1,none⟩) n5 u1).far (p:=⟨B,2,none⟩) n5 u2).far (p:=⟨B,3,none⟩) n5 u3
theorem Box3.cells {w:World} {B:Nat} {v0 v1 v2 v3:Value} {a e:Int} (h:Box3 w B #[v0,v1,v2,v3] a e):
  (w.cell? ⟨B,0,none⟩=some v0∧w.cell? ⟨B,1,none⟩=some v1∧w.cell? ⟨B,2,none⟩=some v2∧w.cell? ⟨B,3,none⟩=some v3∧w.cell? ⟨B+1,0,none⟩=some (.int .i64 a)∧w.cell? ⟨B+1+1,0,none⟩=some (.int .i64 e))∧
  (w.frozen? ⟨B,0,none⟩=false∧w.frozen? ⟨B,1,none⟩=false∧w.frozen? ⟨B,2,none⟩=false∧w.frozen? ⟨B,3,none⟩=false∧w.frozen? ⟨B+1,0,none⟩=false∧w.frozen? ⟨B+1+1,0,none⟩=false)∧B < w.heap.size∧B+1 < w.heap.size∧B+1+1 < w.heap.size:=
 ⟨⟨h.1.cell 0,h.1.cell 1,h.1.cell 2,h.1.cell 3,h.2.1.cell 0,h.2.2.cell 0⟩,⟨h.1.frozen 0,h.1.frozen 1,h.1.frozen 2,h.1.frozen 3,h.2.1.frozen 0,h.2.2.frozen 0⟩,h.1.lt,h.2.1.lt,h.2.2.lt⟩
def noTr:Array Value:= #[.slice none 0 0,.slice none 0 0,.slice none 0 0,.slice none 0 0]

def ParsP (q:Tre×Int×Int) (W:World) (e:Ending) (w':World):Prop:=
 ∃Av Aa Ap Am cv ca cp cm,e= .returned (.tuple #[trV q.1 Av Aa Ap Am cv ca cp cm,.int .i64 q.2.1,.int .i64 q.2.2])∧TrR w' (New W.heap.size w') False q.1 Av Aa Ap Am cv ca cp cm∧Below W.heap.size W w'
def noT:Tre:=⟨[], [], [],.nil⟩
theorem parse_leaves {X:World} {B:Nat} {v0 v1 v2 v3:Value} {a e:Int} {R:Ending→World→Prop} {x0 x1:Value} {rest:List Value} (h:Box3 X B #[v0,v1,v2,v3] a e) (hR:R (.returned (.tuple #[.agg #[v0,v1,v2,v3],.int .i64 a,.int .i64 e])) X):
  Leaves Tryz.prog Tryz.f13 (List.toArray (x0::x1:: .pointer (some ⟨B,0,none⟩):: .pointer (some ⟨B+1,0,none⟩):: .pointer (some ⟨B+2,0,none⟩)::rest)) R [] .returning X:=by
 obtain⟨⟨c0,c1,c2,c3,c4,c5⟩,_,k0,k1,k2⟩:=h.cells
 refine⟨_,?_,hR⟩
 simp[results,Tryz.results13,go_sem,c0,c1,c2,c3,c4,c5,k0,k1,k2]

structure PlainT (s:List UInt8) (T:Tre) (r0:List Tk):Prop where
 none:(toks s).2.2 =0
 tree:treeP ((toks s).1 ++ [endT s])= .ok T r0
 words:∀t∈(toks s).1 ++ [endT s],t.text≠ [97,114,114,97,121]∧t.text≠ [112,114,111,99]
 main:∀j,mayB [109,97,105,110] (((toks s).1 ++ [endT s]).drop j)=true→∃b r3,blockQ 24 (((toks s).1 ++ [endT s]).drop j).tail = .ok b r3
theorem PlainT.par {s:List UInt8} {T:Tre} {r0:List Tk} (h:PlainT s T r0):parseB s=(T,0,0):=by
 unfold parseB
 obtain⟨q,hq⟩:=nmq (toks s)
 have h1:=h.none
 have h2:=h.tree
 rw[←hq]at h1 h2 ⊢
 obtain⟨ts,pl,er⟩:=q
 simp only at h1 h2 ⊢
 rw[if_neg (by simp[h1])]
 show(match treeP (ts++ [endT s])with| .ok t _=>(t,0,0)| .err e a=>(noT,a,e))=_
 rw[h2]
set_option maxRecDepth 100000 in
set_option maxHeartbeats 1600000 in
theorem parse_ok (s:ByteArray) (T:Tre) (r0:List Tk) (hp:PlainT s.data.toList T r0) (hs:s.size≤9223372036854775807) (w:World) (he:NameEnv w):Calls Tryz.prog 13 #[.string s] w (ParsP (parseB s.data.toList) w):=by
 have hmf:= @makeF Tryz.prog
 have HPP:=hdq hp
 clear hp
 obtain⟨i0,hi,hz0,hz1,hz2⟩:=info_parts infoTk
 have HI:=hdq (aiq hi (aiq hz0 (aiq hz1 hz2)))
 clear hi hz0 hz1 hz2
 obtain⟨w1,hw1⟩:=nmq (((w.alloc (.cells #[.slice none 0 0,.slice none 0 0,.slice none 0 0,.slice none 0 0] 49)).alloc (.cells #[.int .i64 0] 3)).alloc (.cells #[.int .i64 0] 23))
 have hb1:Below w.heap.size w w1:=by rw[hw1];exact(((Fr.refl NoT w).alloc _).alloc _ |>.alloc _).plain
 have hbx1:Box3 w1 w.heap.size noTr 0 0:=by
  rw[hw1]
  exact⟨((Bk.new _ _ _).alloc _).alloc _,(Bk.new_at _ _ _ (by simp)).alloc _,Bk.new_at _ _ _ (by simp)⟩
 have HT:=hdq (tokens_any s hs w1 (he.lex.keep hb1))
 obtain⟨q,hq⟩:=nmq (toks s.data.toList)
 rw[←hq]at HT
 have HW1:=hdq hw1
 have HB1:=hdq hb1
 have HX1:=hdq hbx1
 have HE:=hdq he
 have HQ:=hdq hq
 clear hw1 hb1 hbx1 he hq
 go_enter_defers Tryz.func13,Tryz.ntmps13
 go_wp2_with fail
 rw[←HW1.out]
 refine HT.out.mono ?_
 rintro _ w2 ⟨v,rfl,hown,hb2⟩
 have hx2:=HX1.out.fr0 (Fr.below hb2)
 obtain⟨⟨b0,b1,b2,b3,d0,d2⟩,⟨f0,f1,f2,f3,d1,d3⟩,hl0,hl1,hl2⟩:=hx2.cells
 have HX2:=hdq hx2
 have HF2:=hdq ((show Fr NoT w w1 from Fr.below HB1.out).trans (Fr.below hb2))
 have HO:=hdq hown
 have hw1:w1.heap.size=w.heap.size+3:=by rw[HW1.out];simp
 obtain⟨ts,pl,er⟩:=q
 clear hown hb2 HT HX1 hx2
 have herr:er=0:=by have h:=HPP.out.none;rw[←HQ.out]at h;exact h
 ·subst herr
  obtain⟨n,hn⟩:=nmq ts.length
  have hq0:(toks s.data.toList).2.2 =0:=by rw[←HQ.out]
  have hts:(toks s.data.toList).1 =ts:=by rw[←HQ.out]
  have hlies:=toks_lies hq0
  rw[hts]at hlies
  have hcnt:=lies_count hlies.1
  have HPAR:=hdq (show parseB s.data.toList=(T,0,0)from HPP.out.par)
  have hru:treeP (ts++ [endT s.data.toList])= .ok T r0:=by rw[←hts];exact HPP.out.tree
  have hwd:∀t∈ts++ [endT s.data.toList],t.text≠ [97,114,114,97,121]∧t.text≠ [112,114,111,99]:=by rw[←hts];exact HPP.out.words
  have hmn:∀j,mayB [109,97,105,110] ((ts++ [endT s.data.toList]).drop j)=true→∃b r3,blockQ 24 ((ts++ [endT s.data.toList]).drop j).tail = .ok b r3:=by rw[←hts];exact HPP.out.main
  have HRU:=hdq (aiq hru (aiq hwd hmn))
  clear hru hwd hmn
  have HTS:=hdq hts
  have HQ0:=hdq hq0
  have HNN:=hdq hn
  rw[size_len]at hlies hcnt
  have hn1:n≤4096:=by have:=hlies.2;omega
  have hsz:s.size≤4096:=hlies.2
  have HRR:=hdq (show ∀cs:Array Value,(((w2.setCell ⟨w.heap.size+1,0,none⟩ (.int .i64 pl)).setCell ⟨w.heap.size+1+1,0,none⟩ (.int .i64 0)).alloc (.cells cs 76)).ownsRow w1.heap.size 76 3 v n (ts.flatMap tkC)from fun cs=>by
   have h1:=ownsRow_setCell_below HO.out (a:=⟨w.heap.size+1,0,none⟩) (by show w.heap.size+1 < _;omega) (.int .i64 pl)
   have h2:=ownsRow_setCell_below h1 (a:=⟨w.heap.size+1+1,0,none⟩) (by show w.heap.size+1+1 < _;omega) (.int .i64 0)
   rw[hn]
   exact h2.alloc _)
  have hek:tkC (endT s.data.toList)= [.int .u8 0,.string ⟨#[]⟩,.int .i64 (s.size:Int)]:=by simp[tkC,endT]
  have HVL:=hdq (fun b hb=>(HO.out.lt b hb).1)
  clear hn hq0 hts hlies hcnt HO
  go_wp2_with (at_builtin;refine wpList_append_lies _ rfl _ _ 69 rfl w1.heap.size 76 i0 (.agg #[.int .u8 0,.string ⟨#[]⟩,.int .i64 0]) 3 32 Tryz.underlying69 HI.out.1 HI.out.2.1 HI.out.2.2.1 HI.out.2.2.2 rfl (by decide) v n (ts.flatMap tkC) rfl (HRR.out _) ⟨w2.heap.size,0,none⟩ 1 1 (tkC (endT s.data.toList)) rfl rfl ?c1 ?c2 (by decide) ?c3 ?c4 ?c5 (w2.heap.size+1) ?c6 ?_)
  case c1=>
   rw[hek]
   exact(Bk.new_at _ 76 #[.int .u8 0,.string ⟨#[]⟩,.int .i64 (s.size:Int)] (by simp)).news
  case c2=>
   intro u hu
   rw[hek]at hu
   simp only[List.mem_cons,List.not_mem_nil,or_false]at hu
   rcases hu with rfl|rfl|rfl<;>rfl
  case c3=>unfold maxLen;omega
  case c4=>omega
  case c5=>simp;omega
  case c6=>simp
  intro g cap w9 hown hgrow hsp hlt
  have hx9:Box3 w9 w.heap.size noTr pl 0:=(((HX2.out.at_ pl).er 0).fr0 ((Fr.refl NoT _).alloc (.cells #[.int .u8 0,.string ⟨#[]⟩,.int .i64 s.size] 76))).fr (Fr.grown (T:=fun b=>w.heap.size+3≤b) hgrow fun b hb _=>by have:=(HVL.out b hb);omega) (by omega) (by omega) (by omega)
  have hF9:Fr (fun b=>w.heap.size≤b) w w9:=(((((HF2.out.mono fun _ _ h=>h.elim).setCell (p:=⟨w.heap.size+1,0,none⟩) (.inr (by show w.heap.size≤w.heap.size+1;omega)) (.int .i64 pl)).setCell (p:=⟨w.heap.size+1+1,0,none⟩) (.inr (by show w.heap.size≤w.heap.size+1+1;omega)) (.int .i64 0)).alloc (.cells #[.int .u8 0,.string ⟨#[]⟩,.int .i64 s.size] 76))).trans (Fr.grown (T:=fun b=>w.heap.size≤b) hgrow fun b hb _=>by have:=(HVL.out b hb);omega)
  have hgl:=hown.lt g rfl
  obtain⟨A0,c0,hsl,hcl,hcm⟩:=row_shape hown
  simp only[Value.slice.injEq]at hsl
  obtain⟨rfl,_,rfl⟩:=hsl
  have hs9:=hF9.size
  have h39:w.heap.size+2 < w9.heap.size:=hx9.2.2.lt
  have hF10:Fr (fun b=>w.heap.size≤b) w (w9.alloc (.cells #[.slice (some ⟨g,0,none⟩) (n+1) cap,.int .i64 0] 78)):=hF9.alloc _
  have hk:Pcx.Ok ⟨w,w9.heap.size,g,ts++ [endT s.data.toList]⟩:=by
   have:=pcx_ok (P:=w9.heap.size) (TB:=g) HE.out HQ0.out hs9 (by omega) (by omega)
   rw[HTS.out]at this
   exact this
  have hpa:PaAt ⟨w,w9.heap.size,g,ts++ [endT s.data.toList]⟩ (w9.alloc (.cells #[.slice (some ⟨g,0,none⟩) (n+1) cap,.int .i64 0] 78)) (ts++ [endT s.data.toList]) 0:=by
   have:=pa_start (W:=w) (P:=w9.heap.size) (g:=g) (cap:=cap) (n:=n+1) (base:=w.heap.size+3) (s:=s.data.toList) (w:=w9.alloc (.cells #[.slice (some ⟨g,0,none⟩) (n+1) cap,.int .i64 0] 78)) (hF10.to_below (lrq _) fun i hi h=>absurd h (by omega)) (by rw[HTS.out,HNN.out]) (by rw[HTS.out,List.flatMap_append,List.flatMap_cons,List.flatMap_nil,List.append_nil,hek];exact hown.alloc _) hcl hcm (Bk.new _ _ _)
   rw[HTS.out]at this
   exact this
  have HTR:=hdq (tree_ok ⟨w,w9.heap.size,g,ts++ [endT s.data.toList]⟩ _ _ HRU.out.2.1 HRU.out.2.2 hk hpa)
  have HX10:=hdq (hx9.fr0 ((Fr.refl NoT w9).alloc (.cells #[.slice (some ⟨g,0,none⟩) (n+1) cap,.int .i64 0] 78)))
  have HF10:=hdq hF10
  clear hown hgrow hsp hx9 hF9 hF10 hk hpa hgl HRR b0 b1 b2 b3 d0 d2 f0 f1 f2 f3 d1 d3 hl0 hl1 hl2 HX2 HF2 hcl hcm hek
  go_wp2_with fail
  refine HTR.out.mono ?_
  intro e w11 hT
  unfold TrV at hT
  have hr:=HRU.out.1
  ·obtain⟨t,ht⟩:=nmq T
   rw[←ht]at hr HPAR
   clear ht HRU HPP
   rw[hr]at hT
   obtain⟨Av,Aa,Ap,Am,cv,ca,cp,cm,rfl,hTr,hf⟩:=hT
   have hx11:=HX10.out.fr hf (fun e=>by have e:w.heap.size=w9.heap.size:=e;omega) (fun e=>by have e:w.heap.size+1=w9.heap.size:=e;omega) (fun e=>by have e:w.heap.size+2=w9.heap.size:=e;omega)
   have hF11:=HF10.out.trans (hf.mono fun i _ h=>by have h:i=w9.heap.size:=h;show w.heap.size≤i;omega)
   obtain⟨⟨b0,b1,b2,b3,d0,d2⟩,⟨f0,f1,f2,f3,d1,d3⟩,hl0,hl1,hl2⟩:=hx11.cells
   have HP:=hdq (show parseB s.data.toList=(t,0,0)from HPAR.out)
   have HX11:=hdq hx11
   have HT11:=hdq hTr
   have HF11:=hdq hF11
   clear hf hr HTR HPAR hx11 hTr hF11
   unfold trV
   go_wp2_with fail
   refine leaves_cons (f:=28) (args:= #[.pointer (some ⟨w.heap.size,0,none⟩),.pointer (some ⟨w.heap.size+1,0,none⟩),.pointer (some ⟨w.heap.size+2,0,none⟩)]) (by simp) (by simp[go_sem]) ?_
   refine(parse1_idle _ _ _ _).mono ?_
   rintro e u' w'' ⟨rfl,rfl,rfl⟩
   refine parse_leaves (((HX11.out.tr _ _ _ _).at_ 0).er 0) ?_
   rw[HP.out]
   have hFX:Fr (fun b=>w.heap.size≤b∧b≤w.heap.size+2) w11 ((((((w11.setCell ⟨w.heap.size,0,none⟩ (.slice Av t.vars.length cv)).setCell ⟨w.heap.size,1,none⟩ (.slice Aa t.arrays.length ca)).setCell ⟨w.heap.size,2,none⟩ (.slice Ap t.procs.length cp)).setCell ⟨w.heap.size,3,none⟩ (.slice Am t.main.len cm)).setCell ⟨w.heap.size+1,0,none⟩ (.int .i64 0)).setCell ⟨w.heap.size+2,0,none⟩ (.int .i64 0)):=
    ((((((Fr.refl _ _).setCell (.inl ⟨lrq _,by show w.heap.size≤_;omega⟩) _).setCell (.inl ⟨lrq _,by show w.heap.size≤_;omega⟩) _).setCell (.inl ⟨lrq _,by show w.heap.size≤_;omega⟩) _).setCell (.inl ⟨lrq _,by show w.heap.size≤_;omega⟩) _).setCell (.inl ⟨by show w.heap.size≤w.heap.size+1;omega,by show w.heap.size+1≤_;omega⟩) _).setCell (.inl ⟨by show w.heap.size≤w.heap.size+2;omega,lrq _⟩) _
   have hsX:=hFX.size
   refine⟨Av,Aa,Ap,Am,cv,ca,cp,cm,rfl,(HT11.out.keep (hFX.same fun b hb=>⟨hb.2,fun e=>?_⟩)).more fun b hb=>⟨?_,ltq hb.2 hsX⟩,?_⟩
   ·have h1:=hb.1
    have h2:=e.2
    simp only[World.size_alloc]at h1
    omega
   ·exact(HF11.out.trans (hFX.mono fun i _ h=>h.1)).to_below (lrq _) fun i hi h=>absurd h (by omega)
   ·have h1:=hb.1
    simp only[World.size_alloc]at h1
    omega
end Go.Proofs.YtphlnpaikpjakaaGreatDoor
