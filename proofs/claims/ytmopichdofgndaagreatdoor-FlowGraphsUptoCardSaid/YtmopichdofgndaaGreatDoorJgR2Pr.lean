/- facetroomref12: a program under way, in memory; count. -/
import Derived.Test.YtmopichdofgndaaGreatDoorJgR2Ex
import Derived.Test.YtmopichdofgndaaGreatDoorJgR2App
set_option linter.all false
set_option maxRecDepth 100000
namespace Go.Proofs.YtmopichdofgndaaGreatDoor
open Go.RowKit Go.Shelf Go.Maps
def nmOk:Sts->Prop
 | .nil =>True
 | .cons k nm _ _ body els _ r=>(k=2\/k=3\/k=4\/k=9\/nm.data.toList= [])/\nmOk body/\nmOk els/\nmOk r
structure RK where
 W0:World
 S:Nat->Prop
 P:Nat
 Ap:Option Addr
 cp:Nat
 ps:List Prc
 procs:List UInt8->Option Prc
structure RK.Ok (K:RK):Prop where
 tab:Lib.TabIs Tryz.prog K.W0 "internal/strconv.uint64pow10" .u64 Lib.pow10Tab
 low:∀b,K.S b->b < K.W0.heap.size
 prs:SlR (PrR K.W0 K.S False K.ps) K.ps.length 72 K.Ap K.cp
 first:∀(i:Nat)(x:Prc),K.ps[i]?=some x->K.procs x.nm.data.toList=some x
 mem:∀y x,K.procs y=some x->x∈K.ps/\x.nm.data.toList=y
 few:∀y x,K.procs y=some x->x.params.length<=4/\x.nm.size<=16/\(∀v∈x.params,v.nm.size<=16/\in64 v.at_/\v.nm.data.toList≠ [])/\nmOk x.body/\in64 x.at_
structure RAtF (K:RK)(w:World)(s:Ist)(v:Value)(fl:Bool):Prop where
 fr:Fr NoT K.W0 w
 bk:Bk w K.P 85 #[.slice K.Ap K.ps.length K.cp,.int .i64 s.calls,v,.int .i64 s.many,.bool fl]
 row:∃cs,w.ownsRow K.W0.heap.size 43 2 v s.vars.length cs/\RowR oneV w (λ_=>True) s.vars cs
 high:K.W0.heap.size<=K.P
 ne:v.ownBlock≠some K.P
 most:s.many<=261/\s.calls<=s.many+1/\s.vars.length<=36
abbrev RkAt (K:RK)(w:World)(s:Ist)(v:Value):Prop:=RAtF K w s v (zaT s)
def RT (K:RK)(v:Value):Nat->Prop:=λb=>b=K.P\/v.ownBlock=some b
theorem RAtF.frT {K:RK}{w w':World}{s:Ist}{v:Value}{fl:Bool}(h:RAtF K w s v fl){T:Nat->Prop}(hf:Fr T w w')(hW:∀b,T b->K.W0.heap.size<=b)(hP:¬T K.P)(hv:∀b,v.ownBlock=some b->¬T b):RAtF K w' s v fl:=by
 obtain⟨cs,h1,h2⟩:=h.row;exact⟨Fr.back1 h.fr (hf.mono λi _ ht=>hW i ht) (lrq _),h.bk.fr hf hP,⟨cs,zag h1 hf hv,h2.any⟩,h.high,h.ne,h.most⟩
theorem RAtF.fr0 {K:RK}{w w':World}{s:Ist}{v:Value}{fl:Bool}(h:RAtF K w s v fl)(hf:Fr NoT w w'):RAtF K w' s v fl:=h.frT hf (λ_ h=>h.elim) id λ_ _=>id
theorem RAtF.tab {K:RK}{w:World}{s:Ist}{v:Value}{fl:Bool}(h:RAtF K w s v fl)(hk:K.Ok):Lib.TabIs Tryz.prog w "internal/strconv.uint64pow10" .u64 Lib.pow10Tab:=by
 have:=hk.tab;unfold Lib.TabIs at this ⊢;exact zcp h.fr.plain this
theorem RAtF.set {K:RK}{w w':World}{s s':Ist}{v:Value}{fl fl':Bool}(h:RAtF K w s v fl)(hf:Fr (λb=>b=K.P) w w')(hk:Bk w' K.P 85 #[.slice K.Ap K.ps.length K.cp,.int .i64 s'.calls,v,.int .i64 s'.many,.bool fl'])(hv:s'.vars=s.vars)(hm:s'.many<=261/\s'.calls<=s'.many+1):
  RAtF K w' s' v fl':=by
 obtain⟨cs,h1,h2⟩:=h.row;refine⟨Fr.back1 h.fr (hf.mono λb _ e=>(by have e:b=K.P:=e;have:=h.high;show K.W0.heap.size<=b;omega)) (lrq _),hk,⟨cs,?_,by rw[hv];exact h2.any⟩,h.high,h.ne,hm.1,hm.2,by rw[hv];exact h.most.2.2⟩;rw[hv];exact zag h1 hf λb hb e=>by have e:b=K.P:=e;subst e;exact h.ne hb
def znI (K:RK)(s':Ist)(v:Value)(W:World)(e:Ending)(w':World):Prop:=e= .returned (.tuple #[])/\RkAt K w' s' v/\Fr (λi=>i=K.P) W w'
theorem zgh (K:RK)(w:World)(s:Ist)(v:Value)(n:Nat)(h:RAtF K w s v false)(hn:s.many+n<=261/\s.calls<=s.many+n+1):
  Calls Tryz.prog 93 #[.pointer (some ⟨K.P,0,none⟩),.int .i64 (n:Int)] w (znI K ⟨s.calls,s.vars,s.many+n⟩ v w):=by
 obtain⟨cs,GA,_⟩:=h.row;have um:=GA;obtain⟨A,c,rfl,_⟩:=zba GA;have k:=h.bk;have g2:=k.cell 2;have g3:=k.cell 3;have f3:=k.frozen 3;have f4:=k.frozen 4;have g4:=k.cell 4;have gl:=k.lt;simp only[getsL]at g2 g3 g4;obtain⟨nv,Ku⟩:=nmq s.vars.length;obtain⟨m,hm⟩:=nmq s.many;have Vf:=h.most;have ZU:zaT ⟨s.calls,s.vars,s.many+n⟩=(decide (256 < m+n) || decide (32 < nv)):=by unfold zaT;rw[Ku,hm]
 rw[<-hm]at g3 Vf hn;rw[<-Ku]at g2 Vf;have qG:((m:Int)+(n:Int))=((m+n:Nat):Int):=by omega
 have H:=hdq h;have HM:=hdq hm;have qH:=hdq ZU;have ZV:∀fl:Bool,zaT ⟨s.calls,s.vars,s.many+n⟩=false->∀W,W=w.setCell ⟨K.P,3,none⟩ (.int .i64 ((m:Int)+(n:Int)))->RkAt K W ⟨s.calls,s.vars,s.many+n⟩ (.slice A nv c)/\Fr (λi=>i=K.P) w W:=λ_ Ja W hW=>by
  subst hW;have hf:Fr (λi=>i=K.P) w (w.setCell ⟨K.P,3,none⟩ (.int .i64 ((m:Int)+(n:Int)))):=Fr.own (Fr.refl _ _) _ _;refine⟨?_,hf⟩;unfold RkAt;rw[Ja];rw[Ku];refine H.set hf ?_ rfl ⟨by show s.many+n<=261;omega,by show s.calls<=s.many+n+1;omega⟩;have:=k.set_ 3 (.int .i64 ((m:Int)+(n:Int)));simpa[hm]using this
 have VY:zaT ⟨s.calls,s.vars,s.many+n⟩=true->∀W,W=(w.setCell ⟨K.P,3,none⟩ (.int .i64 ((m:Int)+(n:Int)))).setCell ⟨K.P,4,none⟩ (.bool true)->RkAt K W ⟨s.calls,s.vars,s.many+n⟩ (.slice A nv c)/\Fr (λi=>i=K.P) w W:=λJa W hW=>by
  subst hW;have hf:Fr (λi=>i=K.P) w ((w.setCell ⟨K.P,3,none⟩ (.int .i64 ((m:Int)+(n:Int)))).setCell ⟨K.P,4,none⟩ (.bool true)):=Fr.own (Fr.own (Fr.refl _ _) _ _) _ _;refine⟨?_,hf⟩;unfold RkAt;rw[Ja];rw[Ku];refine H.set hf ?_ rfl ⟨by show s.many+n<=261;omega,by show s.calls<=s.many+n+1;omega⟩;have:=(k.set_ 3 (.int .i64 ((m:Int)+(n:Int)))).set_ 4 (.bool true);simpa[hm]using this
 have H1:=hdq ZV;have H2:=hdq VY;rw[<-Ku];clear h GA um k hm Ku ZU ZV VY qG;by_cases h1:256 < m+n
 ·have XI:(256:Int) < (m:Int)+(n:Int):=by omega
  have HR:=hdq (H2 (by rw[qH.out,decide_eq_true h1];rfl) _ rfl);go_enter Tryz.func93,Tryz.ntmps93;go_wp2_with fail;go_end0;exact⟨rfl,HR.1,HR.2⟩
 ·have XI:¬(256:Int) < (m:Int)+(n:Int):=by omega
  by_cases h2:32 < nv
  ·have gN:(32:Int) < (nv:Int):=by omega
   have HR:=hdq (H2 (by rw[qH.out,decide_eq_true h2,Bool.or_true]) _ rfl);go_enter Tryz.func93,Tryz.ntmps93;go_wp2_with fail;go_end0;exact⟨rfl,HR.1,HR.2⟩
  ·have gN:¬(32:Int) < (nv:Int):=by omega
   have HR:=hdq (H1 true (by rw[qH.out,decide_eq_false h1,decide_eq_false h2];rfl) _ rfl);go_enter Tryz.func93,Tryz.ntmps93;go_wp2_with fail;go_end0;exact⟨rfl,HR.1,HR.2⟩
def PcP (K:RK)(x:Prc)(w:World)(e:Ending)(w':World):Prop:=
 ∃pA pc pB pe,e= .returned (prcV x pA pc pB pe)/\Fr NoT w w'/\SlR (VaR K.W0 K.S False x.params) x.params.length 24 pA pc/\SlR (StR K.W0 K.S False x.body) x.body.len 128 pB pe
theorem znJ:(Tryz.prog.info? 68).map (·.size)=some 4:=by kernel_rfl
set_option maxHeartbeats 1600000 in
theorem zit (K:RK)(hk:K.Ok)(w:World)(s:Ist)(v:Value)(fl:Bool)(h:RAtF K w s v fl)(nm:ByteArray)(x:Prc)(hx:K.procs nm.data.toList=some x):
  Calls Tryz.prog 158 #[.pointer (some ⟨K.P,0,none⟩),.string nm] w (PcP K x w):=by
 have Qd:=hk.prs;have Py:=leq9 Qd.1 Qd.2.1.1;obtain⟨m,hm⟩:=nmq K.ps.length;obtain⟨w1,Hc⟩:=nmq (w.alloc (.cells #[.string ⟨#[]⟩,.slice none 0 0,.slice none 0 0,.int .i64 0] 68));have Hi:Fr NoT w w1:=by rw[Hc];exact(Fr.refl _ _).alloc _
 have Hp:Bk w1 w.heap.size 68 #[.string ⟨#[]⟩,.slice none 0 0,.slice none 0 0,.int .i64 0]:=by rw[Hc];exact Bk.new _ _ _
 have h:=h.fr0 Hi;have Ga:=hdq Hc;have Hn:=hdq Hi;have Gv:=hdq Hp;clear Hc Hi Hp;have p0:=h.bk.cell 0;have pl:=h.bk.lt;simp only[getsL]at p0;rw[<-hm]at Py p0;obtain⟨Lm,UH⟩:=hk.mem _ _ hx;have HM:=hdq hm;have gD:=hdq Qd;have HF:=hdq h.fr;have HK:=hdq hk;have HX:=hdq hx;have yS:=hdq (aiq Lm UH);clear Qd hm h hk hx Lm UH;go_enter Tryz.func158,Tryz.ntmps158;go_wp2_with fail;rw[<-Ga.out];go_loop [5] (λi=>∃k:Nat,k<=m/\i= .int .i64 k/\Hid (∀(j:Nat)(y:Prc),j < k->K.ps[j]?=some y->y.nm≠nm)) (λi=>m - (intOf i).toNat);case atStart=>exact⟨0,Nat.zero_le _,rfl,hdq λj s hj=>absurd hj (by omega)⟩
 case round=>
  obtain⟨k,hk,rfl,Ha⟩:=hrel;by_cases Hr:k < m
  ·obtain⟨⟨a0,a1,a2,a3⟩,ar,hd⟩:=zac (show k < K.ps.length from by rw[<-HM.out];exact Hr);obtain⟨B,o,hA,Hd⟩:=gD.2.2 (by rw[<-HM.out];omega);rw[hA]at p0;have Hb:=Hd.drop k;rw[hd.1]at Hb;obtain⟨⟨Hf,_,r1,c0,c3⟩,⟨A1,q1,c1,s1⟩,⟨A2,q2,c2,s2⟩,_⟩:=Hb;have Xc:=HK.low _ Hf;have Gf:B < w1.heap.size:=ltq Xc HF.size;simp only at c0 c1 c2 c3;obtain⟨l1,Hv⟩:=nmq a1.length;obtain⟨l2,Gl⟩:=nmq a2.len;rw[<-Hv]at c1;rw[<-Gl]at c2;have d0:=(HF.cell (p:=⟨B,o+k*4,none⟩) Xc id).trans c0;have d1:=(HF.cell (p:=⟨B,o+k*4+1,none⟩) Xc id).trans c1;have d2:=(HF.cell (p:=⟨B,o+k*4+2,none⟩) Xc id).trans c2;have d3:=(HF.cell (p:=⟨B,o+k*4+3,none⟩) Xc id).trans c3;have FD:K.ps[k]?=some ⟨a0,a1,a2,a3⟩:=by
    have:=congrArg (·[0]?) hd.1;simpa using this
   have Yj:(k:Int) < (m:Int):=by omega
   have jA:(0:Int)<=(k:Int):=by omega
   by_cases W4:a0=nm
   ·subst W4;have qw:(a0.toList==a0.toList)=true:=by simp
    have yT:x=⟨a0,a1,a2,a3⟩:=by
     have h1:=HK.first k _ FD;rw[HX.out]at h1;exact Option.some.inj h1
    have HE:=hdq (aiq yT (aiq Hv (aiq Gl (aiq s1 s2))));have y0:=Gv.cell 0;have y1:=Gv.cell 1;have y2:=Gv.cell 2;have y3:=Gv.cell 3;have yf0:=Gv.frozen 0;have yf1:=Gv.frozen 1;have yf2:=Gv.frozen 2;have yf3:=Gv.frozen 3;have yl:=Gv.lt;simp only[getsL]at y0 y1 y2 y3;clear Hd hd c0 c1 c2 c3 Ha FD hA Hf Xc yT Hv Gl s1 s2;go_wp2_with fail;have Jp:Bk ((((w1.setCell ⟨w.heap.size,0,none⟩ (.string a0)).setCell ⟨w.heap.size,1,none⟩ (.slice A1 l1 q1)).setCell ⟨w.heap.size,2,none⟩ (.slice A2 l2 q2)).setCell ⟨w.heap.size,3,none⟩ (.int .i64 a3)) w.heap.size 68 #[.string a0,.slice A1 l1 q1,.slice A2 l2 q2,.int .i64 a3]:=by
     have:=(((Gv.set_ 0 (.string a0)).set_ 1 (.slice A1 l1 q1)).set_ 2 (.slice A2 l2 q2)).set_ 3 (.int .i64 a3);simpa using this
    refine bodyPost_ret (results_cell_row (p:=4) (ty:=68) rfl _ _ w.heap.size 68 _ (0,0) _ rfl Jp Tryz.underlying68 rfl znJ) rfl ?_;obtain⟨rfl,rfl,rfl,s1,s2⟩:=HE.out;exact⟨A1,q1,A2,q2,rfl,(((Hn.high (lrq _) _ _).high (lrq _) _ _).high (lrq _) _ _).high (lrq _) _ _,s1,s2⟩
   ·have HN:=hdq (show ∀(j:Nat)(z:Prc),j < k+1->K.ps[j]?=some z->z.nm≠nm from λj z hj hz=>by
     by_cases NM:j < k
     ·exact Ha j z NM hz
     ·obtain rfl:j=k:=by omega
      rw[FD]at hz;rw[<-Option.some.inj hz];exact W4)
    have qw:(a0.toList==nm.toList)=false:=by rw[Bool.eq_false_iff];intro h;exact W4 (ba_eq.1 h)
    clear Hd hd c0 c1 c2 c3 Ha FD hA Hf Xc Hv Gl s1 s2 d1 d2 d3;go_wp2_with fail;go_round;case rel=>exact⟨k+1,by omega,by go_num,HN⟩
    case measure=>simp[intOf];omega
  ·exfalso
   obtain⟨j,hj,un⟩:=List.getElem_of_mem yS.1;refine Ha j x (by rw[<-HM.out]at hj;omega) (by rw[List.getElem?_eq_getElem hj,un]) ?_;have:=yS.2;cases hn:x.nm;cases nm;rw[hn]at this;simp only[ByteArray.mk.injEq];exact Array.toList_inj.1 this
