/- Appends: one that is known to run so; where an append's row lies. -/
import Derived.Test.YtfomomaomggpbaaGreatDoorJgBgData
import Derived.Test.YtfomomaomggpbaaGreatDoorJgCl
import Derived.OrdersHeld
import Derived.RegionTactic
import Derived.Deep.RegionHeld
import Derived.Laws.OwnMore
import Derived.Laws.MakeOwn
import Derived.Deep.RegionHeld2
set_option linter.all false
namespace Go.Proofs.YtfomomaomggpbaaGreatDoor
open Go.RowKit
section
variable {P:Program} (w:World)
theorem zgY (base:Nat)(t ty e:TypeId)(i:TypeInfo)(z:Value)(size bytes:Nat)(ht:P.underlying t=some (.slice e))(hi:P.info? e=some i)(hz:i.zero=some z)
  (NL:i.size=size) (Sn:i.bytes=bytes) (To:z.cells.size=size) (Ht:0 < size)
  (v:Value) (n:Nat) (xs:List Value) (Hb:w.ownsRow base e size v n xs)
  (a:Addr) (m c:Nat) (news:List Value) (hl:news.length=m*size) (LT:∀j u,news[j]?=some u->w.cell? (a.add j)=some u) (h1:∀u∈news,u.oneCell'=true)
  (GK:0 < m) (W9:n+m<=maxLen) (Gj:(n+m)*bytes<=140737488355328) (v':Value) (w':World)
  (hr:(Builtin.append_ #[t,t] ty #[v,.slice (some a) m c]).run P w= .ok v' w'):v'.ownBlock=v.ownBlock\/v'.ownBlock=some w.heap.size:=by
 subst NL;subst Sn;have Yw:n+m<=9223372036854775807:=by simp only[maxLen]at W9;omega
 rcases Hb.2 with⟨rfl,rfl⟩|⟨g,cap,cur,rfl,Tq,hg,kI,FS,Jk,gu⟩
 ·have h2:=run_append_nil (P:=P) w t ty e i z ht hi hz a m c news hl LT GK (by omega) (by have hb:=Gj;simp only[Nat.zero_add]at hb;omega);rw[hr]at h2;injection h2 with h3;rw[h3];exact .inr rfl
 ·by_cases So:n+m<=cap
  ·have h2:=run_append_room (P:=P) w t ty e i ht hi g n cap cur hg a m c news hl LT h1 So (by rw[hl,Jk,<-Nat.add_mul];exact Nat.mul_le_mul_right _ So);rw[hr]at h2;injection h2 with h3;rw[h3];exact .inl rfl
  ·have h2:=run_append_grow (P:=P) w t ty e i z ht hi hz ⟨g,0,none⟩ n cap xs Hb.1 (Hb.cells (g:=g) rfl) a m c news hl LT (by omega) (by omega) (growslice_fits (by omega) Gj);rw[hr]at h2;injection h2 with h3;rw[h3];exact .inr rfl
theorem zau {ops:Array Oper}{rest:List Oper}{o:Oper}{a:Act}{Q:Exit->Act->World->Prop}(kJ:o.guard=none)(s x:Operand)(t:TypeId)
  (ho:o.op= .call {callee:= .builtin .append,args:= #[s,x],argTypes:= #[t,t]})
  (base:Nat) (e:TypeId) (i:TypeInfo) (z:Value) (size bytes:Nat) (ht:P.underlying t=some (.slice e)) (hi:P.info? e=some i) (hz:i.zero=some z)
  (NL:i.size=size) (Sn:i.bytes=bytes) (To:z.cells.size=size) (Ht:0 < size)
  (v:Value) (n:Nat) (xs:List Value) (hs:a.eval s=v) (Hb:w.ownsRow base e size v n xs)
  (ad:Addr) (m c:Nat) (news:List Value) (hx:a.eval x= .slice (some ad) m c) (hl:news.length=m*size) (LT:∀j u,news[j]?=some u->w.cell? (ad.add j)=some u) (h1:∀u∈news,u.oneCell'=true)
  (GK:0 < m) (W9:n+m<=maxLen) (Gj:(n+m)*bytes<=140737488355328) (Vv:base<=w.heap.size)
  (h:∀v' w',w'.ownsRow base e size v' (n+m) (xs++news)->w.grownBy w' v.ownBlock->(v'.ownBlock=v.ownBlock\/v'.ownBlock=some w.heap.size)->wpList P ops Q rest (a.put o.dst v') w'):wpList P ops Q (o::rest) a w:=by
 refine wpList_plain kJ λK hK=>?_;obtain⟨v',w',hr,h2,h3,_⟩:=run_append_own (P:=P) w base t o.type e i z size bytes ht hi hz NL Sn To Ht v n xs Hb ad m c news hl LT h1 W9 Gj Vv;have h4:=zgY (P:=P) w base t o.type e i z size bytes ht hi hz NL Sn To Ht v n xs Hb ad m c news hl LT h1 GK W9 Gj v' w' hr;unfold Oper.wp execOp;simp only[ho,resolve,invoke,builtin,Sem.run_bind,Sem.run_pure,Result.andThen_ok,List.map_toArray,List.map_cons,List.map_nil,hs,hx,hr];exact hK _ _ (h v' w' h2 h3 h4)
end
section
variable {α:Type} {one:World->(Nat->Prop)->α->List Value->Prop}
end
/-! expressions -/
/-! conditions -/
/-! statements -/
/-! names, arrays, procedures -/
theorem zmT:(Tryz.prog.info? 175).map (λi=>(i.zero,i.size,i.bytes))=some (some (.agg #[.int .u8 0,.string ⟨#[]⟩,.int .i64 0,.slice none 0 0,.int .i64 0]),5,64):=by kernel_rfl
theorem zmU:(Tryz.prog.info? 77).map (λi=>(i.zero,i.size,i.bytes))=some (some (.agg #[.string ⟨#[]⟩,.int .i64 0]),2,24):=by kernel_rfl
theorem zmV:(Tryz.prog.info? 61).map (λi=>(i.zero,i.size,i.bytes))=some (some (.agg #[.string ⟨#[]⟩,.int .i64 0,.int .i64 0]),3,32):=by kernel_rfl
def zeroSt:Array Value:= #[.int .u8 0,.string ⟨#[]⟩,.slice none 0 0,.slice none 0 0,.slice none 0 0,.slice none 0 0,.int .i64 0]
theorem zov:(Tryz.prog.info? 51).map (λi=>(i.zero,i.size,i.bytes))=some (some (.agg zeroSt),7,128):=by kernel_rfl
theorem zow:(Tryz.prog.info? 63).map (λi=>(i.zero,i.size,i.bytes))=some (some (.agg #[.string ⟨#[]⟩,.slice none 0 0,.slice none 0 0,.int .i64 0]),4,72):=by kernel_rfl
def bnOf (t:Tre):Bn:=⟨t.vars.map (·.nm.data.toList),t.arrays.map (·.nm.data.toList),zbr t.procs⟩
open Go.RowKit Go.Shelf
theorem zkd (w:World)(c0 c1:Array Value)(t0 t1:TypeId):Bk ((w.alloc (.cells c0 t0)).alloc (.cells c1 t1)) w.heap.size t0 c0/\Bk ((w.alloc (.cells c0 t0)).alloc (.cells c1 t1)) (w.heap.size+1) t1 c1:=
 ⟨(Bk.new _ _ _).alloc _,Bk.new_at _ _ _ (by simp)⟩
structure En where
 kind:Int
 wrong:Int
 at_:Int
 node:Int
 edge:Int
 left:Int
 vs:List Int
 ls:List (List Int)
/-! skips alone come to an end -/
theorem Same.of_fr {T:Nat->Prop}{L:Nat}{w w':World}(hf:Fr T w w')(hL:L<=w.heap.size)(hT:∀b,T b->L<=b):Same L w w':=λp hp=>hf.cell (ltq hp hL) λht=>absurd hp (Nat.not_lt.2 (hT _ ht))
theorem zdy {P:Program}{fn:Func}{p q:Tmp}{ty:TypeId}(h:fn.results= #[.cell p ty,.tmp q])(tmps:Array Value)(w:World)(g:Nat)(t:TypeId)(cs:Array Value)(fr:Nat×Nat)(d:TypeDesc)
  (hp:tmps.getD p undef= .pointer (some ⟨g,0,none⟩)) (hg:w.heap[g]?=some (.cells cs t fr))
  (hu:P.underlying ty=some d) (hd:(match d with| .struct _| .array _ _=>true|_=>false)=true) (hi:(P.info? ty).map (·.size)=some cs.size):
  (results fn tmps).run P w= .ok (.tuple #[.agg cs,tmps.getD q undef]) w:=by
 have Lx:tmps[p]?.getD undef= .pointer (some ⟨g,0,none⟩):=by simpa using hp
 simp[results,h,Lx,asAddr,run_loadVar_row w g t ty cs fr d hg hu hd hi]
theorem Fr.low {T:Nat->Prop}{w w':World}(h:Fr T w w'){b:Nat}(hb:b < w.heap.size):b < w'.heap.size:=ltq hb h.size
def eq6 (a0 b0 a1 b1 a2 b2 a3 b3 a4 b4 a5 b5:Int)(q q':Bool):Bool:=a0==b0&&(a1==b1&&(a2==b2&&(a3==b3&&(a4==b4&&(a5==b5&&(q&&q'))))))
set_option maxRecDepth 100000 in
set_option maxHeartbeats 3200000 in
theorem zlZ (a0 b0 a1 b1 a2 b2 a3 b3 a4 b4 a5 b5:Int)(vs yE:List Int)(ls yj:List (List Int))(Av yF Aa yG:Option Addr)(cv yH ca yI B:Nat)(w:World)(hB:B<=w.heap.size)(hx:StSl w B vs ls Av cv Aa ca)(hy:StSl w B yE yj yF yH yG yI):
  Calls Tryz.prog 15 #[.agg #[.int .u8 a0,.int .u8 a1,.int .i64 a2,.int .i64 a3,.int .i64 a4,.int .i64 a5,.slice Av vs.length cv,.slice Aa ls.length ca],.agg #[.int .u8 b0,.int .u8 b1,.int .i64 b2,.int .i64 b3,.int .i64 b4,.int .i64 b5,.slice yF yE.length yH,.slice yG yj.length yI]] w (zcB (eq6 a0 b0 a1 b1 a2 b2 a3 b3 a4 b4 a5 b5 (vs==yE) (ls==yj)) w):=by
 obtain⟨n1,J3⟩:=nmq ls.length;obtain⟨n2,Mr⟩:=nmq yj.length;obtain⟨v1,FN⟩:=nmq vs.length;obtain⟨v2,Ka⟩:=nmq yE.length;obtain⟨q,hq⟩:=nmq ((vs==yE));obtain⟨q',Yx⟩:=nmq ((ls==yj));have hc:=λ(W:World)(hf:Fr NoT w W)=>zjL vs yE Av yF cv yH W B (hx.vars.keep (Same.of_fr hf hB λ_ h=>h.elim)) (hy.vars.keep (Same.of_fr hf hB λ_ h=>h.elim));have hd:=λ(W:World)(hf:Fr NoT w W)=>zns ls yj Aa yG ca yI W B (leq9 hB hf.size) (hx.arrs.keep (Same.of_fr hf hB λ_ h=>h.elim)) (hy.arrs.keep (Same.of_fr hf hB λ_ h=>h.elim));have kk:=zkd w #[.int .u8 a0,.int .u8 a1,.int .i64 a2,.int .i64 a3,.int .i64 a4,.int .i64 a5,.slice Av vs.length cv,.slice Aa ls.length ca] #[.int .u8 b0,.int .u8 b1,.int .i64 b2,.int .i64 b3,.int .i64 b4,.int .i64 b5,.slice yF yE.length yH,.slice yG yj.length yI] 34 34;rw[<-FN,<-Ka,<-hq]at hc;rw[<-J3,<-Mr,<-Yx]at hd;rw[<-J3,<-Mr,<-FN,<-Ka]at kk;rw[<-J3,<-Mr,<-FN,<-Ka,<-hq,<-Yx];have HC:=hdq hc;have HD:=hdq hd;have Sp:=hdq kk;obtain⟨w1,Hc⟩:=nmq ((w.alloc (.cells #[.int .u8 a0,.int .u8 a1,.int .i64 a2,.int .i64 a3,.int .i64 a4,.int .i64 a5,.slice Av v1 cv,.slice Aa n1 ca] 34)).alloc (.cells #[.int .u8 b0,.int .u8 b1,.int .i64 b2,.int .i64 b3,.int .i64 b4,.int .i64 b5,.slice yF v2 yH,.slice yG n2 yI] 34));have Hg:Fr NoT w w1:=by rw[Hc];exact((Fr.refl _ _).alloc _).alloc _
 have Gg:=hdq Hc;have Hs:=hdq Hg;clear hx hy J3 Mr FN Ka hq Yx Hc Hg hc hd kk;by_cases h0:a0=b0
 case neg=>
  have g0:(a0==b0)=false:=by simpa using h0
  have HE:=hdq (show eq6 a0 b0 a1 b1 a2 b2 a3 b3 a4 b4 a5 b5 q q'=false from by simp[eq6,g0]);go_enter Tryz.func15,Tryz.ntmps15;go_wp2_with fail;rw[<-Gg.out];go_ret;exact⟨by rw[HE.out];rfl,Hs.plain⟩
 subst h0;by_cases h1:a1=b1
 case neg=>
  have g1:(a1==b1)=false:=by simpa using h1
  have HE:=hdq (show eq6 a0 a0 a1 b1 a2 b2 a3 b3 a4 b4 a5 b5 q q'=false from by simp[eq6,g1]);go_enter Tryz.func15,Tryz.ntmps15;go_wp2_with fail;rw[<-Gg.out];go_ret;exact⟨by rw[HE.out];rfl,Hs.plain⟩
 subst h1;by_cases h2:a2=b2
 case neg=>
  have g2:(a2==b2)=false:=by simpa using h2
  have HE:=hdq (show eq6 a0 a0 a1 a1 a2 b2 a3 b3 a4 b4 a5 b5 q q'=false from by simp[eq6,g2]);go_enter Tryz.func15,Tryz.ntmps15;go_wp2_with fail;rw[<-Gg.out];go_ret;exact⟨by rw[HE.out];rfl,Hs.plain⟩
 subst h2;by_cases h3:a3=b3
 case neg=>
  have g3:(a3==b3)=false:=by simpa using h3
  have HE:=hdq (show eq6 a0 a0 a1 a1 a2 a2 a3 b3 a4 b4 a5 b5 q q'=false from by simp[eq6,g3]);go_enter Tryz.func15,Tryz.ntmps15;go_wp2_with fail;rw[<-Gg.out];go_ret;exact⟨by rw[HE.out];rfl,Hs.plain⟩
 subst h3;by_cases h4:a4=b4
 case neg=>
  have g4:(a4==b4)=false:=by simpa using h4
  have HE:=hdq (show eq6 a0 a0 a1 a1 a2 a2 a3 a3 a4 b4 a5 b5 q q'=false from by simp[eq6,g4]);go_enter Tryz.func15,Tryz.ntmps15;go_wp2_with fail;rw[<-Gg.out];go_ret;exact⟨by rw[HE.out];rfl,Hs.plain⟩
 subst h4;by_cases h5:a5=b5
 case neg=>
  have g5:(a5==b5)=false:=by simpa using h5
  have HE:=hdq (show eq6 a0 a0 a1 a1 a2 a2 a3 a3 a4 a4 a5 b5 q q'=false from by simp[eq6,g5]);go_enter Tryz.func15,Tryz.ntmps15;go_wp2_with fail;rw[<-Gg.out];go_ret;exact⟨by rw[HE.out];rfl,Hs.plain⟩
 subst h5;have HE:=hdq (show eq6 a0 a0 a1 a1 a2 a2 a3 a3 a4 a4 a5 a5 q q'=(q&&q')from by simp[eq6]);go_enter Tryz.func15,Tryz.ntmps15;go_wp2_with fail;rw[<-Gg.out];have a7:=Sp.1.cell 7;have b7:=Sp.2.cell 7;have al:=Sp.1.lt;have bl:=Sp.2.lt;rw[<-Gg.out]at a7 b7 al bl;simp only[getsL]at a7 b7;go_at_call 30;refine(HC w1 Hs.out).mono ?_;rintro e w2 ⟨rfl,GP⟩;have He:Fr NoT w1 w2:=Fr.below GP;have xx:=(He.cell (p:=⟨w.heap.size,7,none⟩) al id).trans a7;have xy:=(He.cell (p:=⟨w.heap.size+1,7,none⟩) bl id).trans b7;have xz:=He.low al;have xA:=He.low bl;have Hv:=hdq (Hs.trans He);clear GP He;cases q with
 |false=>
  go_wp2_with fail;go_ret;exact⟨by rw[HE.out];rfl,Hv.plain⟩
 |true=>
  go_wp2_with fail;go_at_call 31;refine(HD w2 Hv.out).mono ?_;rintro e w3 ⟨rfl,Fv⟩;go_wp2_with fail;go_ret;exact⟨by rw[HE.out];rfl,(Hv.trans (Fr.below Fv)).plain⟩
