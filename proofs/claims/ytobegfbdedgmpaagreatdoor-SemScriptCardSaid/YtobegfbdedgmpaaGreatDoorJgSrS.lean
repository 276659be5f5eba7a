/-
  ref14's SameStore.
-/
import Derived.Test.YtobegfbdedgmpaaGreatDoorJgRA
import Derived.Test.YtobegfbdedgmpaaGreatDoorJgSrB
import Derived.Test.YtobegfbdedgmpaaGreatDoorJgSrStep2
import Derived.Test.YtobegfbdedgmpaaGreatDoorJgSrR
import Derived.Laws.AppendOwnNone
set_option linter.unusedVariables false
set_option linter.unusedSimpArgs false
namespace Go.Proofs.YtobegfbdedgmpaaGreatDoor
open Go.RowKit Go.Shelf

def eq6 (a0 b0 a1 b1 a2 b2 a3 b3 a4 b4 a5 b5:Int) (q q':Bool):Bool:=a0==b0&&(a1==b1&&(a2==b2&&(a3==b3&&(a4==b4&&(a5==b5&&(q&&q'))))))
set_option maxRecDepth 100000 in
set_option maxHeartbeats 3200000 in
theorem zl0 (a0 b0 a1 b1 a2 b2 a3 b3 a4 b4 a5 b5:Int) (vs vs':List Int) (ls ls':List (List Int)) (Av Av' Aa Aa':Option Addr) (cv cv' ca ca' B:Nat) (w:World) (hB:B≤w.heap.size) (hx:StSl w B vs ls Av cv Aa ca) (hy:StSl w B vs' ls' Av' cv' Aa' ca'):
  Calls Tryz.prog 32 #[.agg #[.int .u8 a0,.int .u8 a1,.int .i64 a2,.int .i64 a3,.int .i64 a4,.int .i64 a5,.slice Av vs.length cv,.slice Aa ls.length ca],.agg #[.int .u8 b0,.int .u8 b1,.int .i64 b2,.int .i64 b3,.int .i64 b4,.int .i64 b5,.slice Av' vs'.length cv',.slice Aa' ls'.length ca']] w (zae (eq6 a0 b0 a1 b1 a2 b2 a3 b3 a4 b4 a5 b5 (vs==vs') (ls==ls')) w):=by
 obtain⟨n1,hn1⟩:=nmq ls.length
 obtain⟨n2,hn2⟩:=nmq ls'.length
 obtain⟨v1,hv1⟩:=nmq vs.length
 obtain⟨v2,hv2⟩:=nmq vs'.length
 obtain⟨q,hq⟩:=nmq ((vs==vs'))
 obtain⟨q',hq'⟩:=nmq ((ls==ls'))
 have hc:=fun(W:World) (hf:Fr NoT w W)=>zkb vs vs' Av Av' cv cv' W B (hx.vars.keep (Same.of_fr hf hB fun _ h=>h.elim)) (hy.vars.keep (Same.of_fr hf hB fun _ h=>h.elim))
 have hd:=fun(W:World) (hf:Fr NoT w W)=>znm ls ls' Aa Aa' ca ca' W B (Nat.le_trans hB hf.size) (hx.arrs.keep (Same.of_fr hf hB fun _ h=>h.elim)) (hy.arrs.keep (Same.of_fr hf hB fun _ h=>h.elim))
 have kk:=zbZ w #[.int .u8 a0,.int .u8 a1,.int .i64 a2,.int .i64 a3,.int .i64 a4,.int .i64 a5,.slice Av vs.length cv,.slice Aa ls.length ca] #[.int .u8 b0,.int .u8 b1,.int .i64 b2,.int .i64 b3,.int .i64 b4,.int .i64 b5,.slice Av' vs'.length cv',.slice Aa' ls'.length ca'] 59 59
 rw[←hv1,←hv2,←hq]at hc
 rw[←hn1,←hn2,←hq']at hd
 rw[←hn1,←hn2,←hv1,←hv2]at kk
 rw[←hn1,←hn2,←hv1,←hv2,←hq,←hq']
 have HC:=hdq hc
 have HD:=hdq hd
 have HKK:=hdq kk
 obtain⟨w1,hw1⟩:=nmq ((w.alloc (.cells #[.int .u8 a0,.int .u8 a1,.int .i64 a2,.int .i64 a3,.int .i64 a4,.int .i64 a5,.slice Av v1 cv,.slice Aa n1 ca] 59)).alloc (.cells #[.int .u8 b0,.int .u8 b1,.int .i64 b2,.int .i64 b3,.int .i64 b4,.int .i64 b5,.slice Av' v2 cv',.slice Aa' n2 ca'] 59))
 have hf1:Fr NoT w w1:=by rw[hw1];exact((Fr.refl _ _).alloc _).alloc _
 have HW1:=hdq hw1
 have HF1:=hdq hf1
 clear hx hy hn1 hn2 hv1 hv2 hq hq' hw1 hf1 hc hd kk
 by_cases h0:a0=b0
 case neg=>
  have g0:(a0==b0)=false:=by simpa using h0
  have HE:=hdq (show eq6 a0 b0 a1 b1 a2 b2 a3 b3 a4 b4 a5 b5 q q'=false from by simp[eq6,g0])
  go_enter Tryz.func32,Tryz.ntmps32
  go_wp2_with fail
  rw[←HW1.out]
  go_ret
  exact⟨by rw[HE.out];rfl,HF1.out.plain⟩
 subst h0
 by_cases h1:a1=b1
 case neg=>
  have g1:(a1==b1)=false:=by simpa using h1
  have HE:=hdq (show eq6 a0 a0 a1 b1 a2 b2 a3 b3 a4 b4 a5 b5 q q'=false from by simp[eq6,g1])
  go_enter Tryz.func32,Tryz.ntmps32
  go_wp2_with fail
  rw[←HW1.out]
  go_ret
  exact⟨by rw[HE.out];rfl,HF1.out.plain⟩
 subst h1
 by_cases h2:a2=b2
 case neg=>
  have g2:(a2==b2)=false:=by simpa using h2
  have HE:=hdq (show eq6 a0 a0 a1 a1 a2 b2 a3 b3 a4 b4 a5 b5 q q'=false from by simp[eq6,g2])
  go_enter Tryz.func32,Tryz.ntmps32
  go_wp2_with fail
  rw[←HW1.out]
  go_ret
  exact⟨by rw[HE.out];rfl,HF1.out.plain⟩
 subst h2
 by_cases h3:a3=b3
 case neg=>
  have g3:(a3==b3)=false:=by simpa using h3
  have HE:=hdq (show eq6 a0 a0 a1 a1 a2 a2 a3 b3 a4 b4 a5 b5 q q'=false from by simp[eq6,g3])
  go_enter Tryz.func32,Tryz.ntmps32
  go_wp2_with fail
  rw[←HW1.out]
  go_ret
  exact⟨by rw[HE.out];rfl,HF1.out.plain⟩
 subst h3
 by_cases h4:a4=b4
 case neg=>
  have g4:(a4==b4)=false:=by simpa using h4
  have HE:=hdq (show eq6 a0 a0 a1 a1 a2 a2 a3 a3 a4 b4 a5 b5 q q'=false from by simp[eq6,g4])
  go_enter Tryz.func32,Tryz.ntmps32
  go_wp2_with fail
  rw[←HW1.out]
  go_ret
  exact⟨by rw[HE.out];rfl,HF1.out.plain⟩
 subst h4
 by_cases h5:a5=b5
 case neg=>
  have g5:(a5==b5)=false:=by simpa using h5
  have HE:=hdq (show eq6 a0 a0 a1 a1 a2 a2 a3 a3 a4 a4 a5 b5 q q'=false from by simp[eq6,g5])
  go_enter Tryz.func32,Tryz.ntmps32
  go_wp2_with fail
  rw[←HW1.out]
  go_ret
  exact⟨by rw[HE.out];rfl,HF1.out.plain⟩
 subst h5
 have HE:=hdq (show eq6 a0 a0 a1 a1 a2 a2 a3 a3 a4 a4 a5 a5 q q'=(q&&q')from by simp[eq6])
 go_enter Tryz.func32,Tryz.ntmps32
 go_wp2_with fail
 rw[←HW1.out]
 have a7:=HKK.out.1.cell 7
 have b7:=HKK.out.2.cell 7
 have al:=HKK.out.1.lt
 have bl:=HKK.out.2.lt
 rw[←HW1.out]at a7 b7 al bl
 simp only[List.getElem?_toArray,List.getElem?_cons_succ,List.getElem?_cons_zero]at a7 b7
 go_at_call 82
 refine(HC.out w1 HF1.out).mono ?_
 rintro e w2 ⟨rfl,hb2⟩
 have hf2:Fr NoT w1 w2:=Fr.below hb2
 have a7':=(hf2.cell (p:=⟨w.heap.size,7,none⟩) al id).trans a7
 have b7':=(hf2.cell (p:=⟨w.heap.size+1,7,none⟩) bl id).trans b7
 have al':=hf2.low al
 have bl':=hf2.low bl
 have HF2:=hdq (HF1.out.trans hf2)
 clear hb2 hf2
 cases q with
 |false=>
  go_wp2_with fail
  go_ret
  exact⟨by rw[HE.out];rfl,HF2.out.plain⟩
 |true=>
  go_wp2_with fail
  go_at_call 83
  refine(HD.out w2 HF2.out).mono ?_
  rintro e w3 ⟨rfl,hb3⟩
  go_wp2_with fail
  go_ret
  exact⟨by rw[HE.out];rfl,(HF2.out.trans (Fr.below hb3)).plain⟩

theorem Ends.uniq {g:Gr} {s:Rs} {en:En} (h:Ends g s en):∀en',Ends g s en'→en'=en:=by
 induction h with
 |done hl=>exact fun en' h'=>h'.at_last hl
 |stop hl he=>exact fun en' h'=>h'.stops hl he
 |go hl he _ ih=>exact fun en' h'=>ih en' (h'.goes hl he)
def enEq (a b:En):Bool:=eq6 a.kind b.kind a.wrong b.wrong a.at_ b.at_ a.node b.node a.edge b.edge a.left b.left (a.vs==b.vs) (a.ls==b.ls)
theorem zkB (a:En):enEq a a=true:=by simp[enEq,eq6]
theorem EndIs.keep {w w':World} {en:En} {v:Value} (h:EndIs w en v) (hf:Fr NoT w w'):EndIs w' en v:=by
 obtain⟨Av,cv,Aa,ca,e,hs⟩:=h
 have h1:=hs.keep (Same.of_fr hf (Nat.le_refl _) fun _ h=>h.elim)
 exact⟨Av,cv,Aa,ca,e,⟨h1.vars.up hf.size,⟨h1.arrs.1,h1.arrs.2.1,fun hp=>by
  obtain⟨b,o,e',hb,hh⟩:=h1.arrs.2.2 hp
  exact⟨b,o,e',Nat.lt_of_lt_of_le hb hf.size,fun i l hi=>by obtain⟨A,c,hc,hsl⟩:=hh i l hi;exact⟨A,c,hc,hsl.up hf.size⟩⟩⟩⟩⟩
theorem zkC {w:World} {a b:En} {va vb:Value} (h:EndIs w a va) (h':EndIs w b vb):Calls Tryz.prog 32 #[va,vb] w (zae (enEq a b) w):=by
 obtain⟨Av,cv,Aa,ca,rfl,hs⟩:=h
 obtain⟨Av',cv',Aa',ca',rfl,hs'⟩:=h'
 exact zl0 _ _ _ _ _ _ _ _ _ _ _ _ a.vs b.vs a.ls b.ls Av Av' Aa Aa' cv cv' ca ca' w.heap.size w (Nat.le_refl _) hs hs'
theorem zgO {w:World} {base:Nat} {v:Value} {l:List Int} (h:w.ownsRow base 3 1 v l.length (intL l)) (h64:∀n∈l,in64 n):∃A c,v= .slice A l.length c∧IsSl w w.heap.size l A c:=by
 have hown:=h
 obtain⟨hl,h|⟨g,cap,cur,rfl,hb,hg,hn,hc,hs,ht⟩⟩:=h
 ·obtain⟨rfl,h0⟩:=h
  have e0:l= []:=List.length_eq_zero_iff.1 h0
  subst e0
  exact⟨none,0,rfl,by simp,by decide,by simp⟩
 ·have hgl:g < w.heap.size:=(Array.getElem?_eq_some_iff.1 hg).1
  refine⟨some ⟨g,0,none⟩,cap,rfl,hn,by simpa[maxLen]using hc,fun _=>⟨g,0,rfl,hgl,fun i n hi=>?_⟩⟩
  have hil:=(List.getElem?_eq_some_iff.1 hi).1
  have hc:=hown.cellAt i (by omega)
  exact⟨by rw[Nat.zero_add,hc,intL,List.getElem?_map,hi];rfl,h64 n (List.mem_of_getElem? hi)⟩

open Go.RowKit

def Rs.scr (l:List Int) (s:Rs):Rs:={s with script:=s.script++l}
theorem zf1 (g:Gr) (s:Rs) (l:List Int):(∃en,zaP g s= .inr en∧en.kind=3)∨zaP g (s.scr l)=Sum.map (Rs.scr l) id (zaP g s):=by
 have hn:(s.scr l).node =s.node:=rfl
 have hl:(s.scr l).left =s.left:=rfl
 unfold zaP
 rw[hn,hl]
 cases h1:idxE g.edges s.node g.edges.length with
 |nil=>exact .inr rfl
 |cons i r=>
  simp only
  cases h2:g.edges[i]? with
  |none=>exact .inr rfl
  |some x=>
   simp only
   by_cases h3:zbp x.kind=true∧s.left=0
   ·rw[if_pos h3,if_pos h3]
    exact .inr rfl
   ·rw[if_neg h3,if_neg h3]
    have e1:(s.scr l).script =s.script++l:=rfl
    have e2:(s.scr l).vs =s.vs:=rfl
    have e3:(s.scr l).ls =s.ls:=rfl
    rw[e1,e2,e3]
    by_cases k7:x.kind=7
    ·rw[if_pos k7,if_pos k7];exact .inr rfl
    rw[if_neg k7,if_neg k7]
    by_cases k8:x.kind=8
    ·rw[if_pos k8,if_pos k8];exact .inr rfl
    rw[if_neg k8,if_neg k8]
    by_cases k5:x.kind=5
    ·rw[if_pos k5,if_pos k5]
     cases hs:s.script with
     |nil=>exact .inl ⟨_,rfl,rfl⟩
     |cons a q=>exact .inr rfl
    rw[if_neg k5,if_neg k5]
    right
    repeat' split
    all_goals first
     |rfl
     |(simp_all [Rs.scr,Rs.stop,Sum.map];done)
theorem Ends.scr {g:Gr} {s:Rs} {en:En} (l:List Int) (h:Ends g s en):en.kind≠3→Ends g (s.scr l) en:=by
 induction h with
 | @done s hl=>exact fun _=>Ends.done (s:=s.scr l) hl
 | @stop s en hl he=>
  rcases zf1 g s l with⟨e2,h1,h2⟩|h1
  ·rw[he]at h1
   cases h1
   exact fun h=>absurd h2 h
  ·rw[he]at h1
   exact fun _=>Ends.stop (s:=s.scr l) hl h1
 | @go s t en hl he hn ih=>
  rcases zf1 g s l with⟨e2,h1,h2⟩|h1
  ·rw[he]at h1;cases h1
  ·rw[he]at h1
   exact fun h=>Ends.go (s:=s.scr l) hl h1 (ih h)
def zl1 (g:Gr):Nat→Rs→Option En
 |0,_=>none
 |n+1,s=>if s.node=g.last then some (s.stop 1 0 0 0)else match zaP g s with
  | .inr en=>some en
  | .inl t=>zl1 g n t
theorem zes {g:Gr}:∀ {n:Nat} {s:Rs} {en:En},zl1 g n s=some en→Ends g s en
 |0,_,_,h=>by cases h
 |n+1,s,en,h=>by
  unfold zl1 at h
  split at h
  ·rename_i hl
   cases h
   exact .done hl
  ·rename_i hl
   split at h
   ·rename_i e he
    cases h
    exact .stop hl he
   ·rename_i t ht
    exact .go hl ht (zes h)
end Go.Proofs.YtobegfbdedgmpaaGreatDoor
