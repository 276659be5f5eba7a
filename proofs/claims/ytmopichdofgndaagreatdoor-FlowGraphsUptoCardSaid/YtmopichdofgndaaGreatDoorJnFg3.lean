/- flow's maker: ways of a condition: the closures. -/
import Derived.Test.YtmopichdofgndaaGreatDoorJgFg2
set_option linter.all false
set_option maxHeartbeats 3200000
set_option maxRecDepth 100000
namespace Go.Proofs.YtmopichdofgndaaGreatDoor
open Go.RowKit Go.Shelf
structure FgC where
 B:Nat
 b:Nat
 mS:Nat
 mA:Nat
 vars:Int
 sl:Value
 sc:NoN
 ar:NoN
 r1:NoR sc
 r2:NoR ar
def FgC.At (C:FgC)(s:FgS)(v:Value)(w:World):Prop:=MkS C.B C.b C.mS C.mA C.vars C.sl C.sc C.ar s v w
theorem FgC.At.fr0 {C:FgC}{s:FgS}{v:Value}{w w':World}(h:C.At s v w)(hf:Fr NoT w w'):C.At s v w':=MkS.fr0 h hf
def FgC.put (C:FgC)(s:FgS)(from_ to_ at_ kind n cmp:Int)(args:Exs):FgS:=s.put C.sc C.ar from_ to_ at_ kind n cmp args
def MkP (C:FgC)(s:FgS)(u:Value)(W:World)(e:Ending)(w':World):Prop:=∃u',e= .returned (.tuple #[])/\C.At s u' w'/\Made C.b u u' W w'
def FgK (B lo hi x:Nat):Prop:=x < B\/(lo<=x/\x < hi)
def Off (K:Nat->Prop)(b:Nat)(v:Value):Prop:=∀x,K x->¬MOwn b v x
def Room (N:Nat)(s:FgS):Prop:=0<=s.nodes/\s.nodes+N<=1000000000000/\s.edges.length+N<=1000000000000
def Grow (N:Nat)(s s':FgS):Prop:=s.nodes<=s'.nodes/\s'.nodes<=s.nodes+N/\s'.edges.length<=s.edges.length+N
section
variable {N M:Nat} {s s1 s2:FgS}
theorem Grow.trans (h:Grow N s s1)(k:Grow M s1 s2):Grow (N+M) s s2:=by
 unfold Grow at*;obtain⟨h1,h2,h3⟩:=h;obtain⟨k1,k2,k3⟩:=k;refine⟨?_,?_,?_⟩
 ·omega
 ·push_cast;omega
 ·omega
theorem Grow.mono (h:Grow N s s1)(hn:N<=M):Grow M s s1:=by
 unfold Grow at*;obtain⟨h1,h2,h3⟩:=h;refine⟨h1,?_,?_⟩<;>omega
theorem Room.less (h:Room M s)(hn:N<=M):Room N s:=by
 unfold Room at*;obtain⟨h1,h2,h3⟩:=h;refine⟨h1,?_,?_⟩<;>omega
theorem Room.after (h:Room (N+M) s)(g:Grow N s s1):Room M s1:=by
 unfold Room Grow at*;obtain⟨h1,h2,h3⟩:=h;obtain⟨g1,g2,g3⟩:=g
 push_cast at h2
 refine⟨?_,?_,?_⟩<;>omega
theorem Room.in_ (h:Room N s):in64 s.nodes:=by
 unfold Room at h;unfold in64;obtain⟨h1,h2,h3⟩:=h;constructor<;>omega
theorem zcH (C:FgC)(s:FgS)(a b c d e f:Int)(xs:Exs):Grow 1 s (C.put s a b c d e f xs):=by
 unfold Grow FgC.put FgS.put;refine⟨?_,?_,?_⟩<;>simp;omega
theorem zah (s:FgS):Grow 1 s s.node:=by
 unfold Grow FgS.node;refine⟨?_,?_,?_⟩<;>simp;omega
end
def WayP (C:FgC)(K:Nat->Prop)(val:Value)(c:Way)(N:Nat)(w:World):Prop:=
 ∃g caps,val= .func (.func g) #[] caps/\Enters Tryz.prog g/\(∀f y n s,Grow N s (c f y n s))/\
  ∀(W:World)(s:FgS)(u:Value),SameS K w W->w.heap.size<=W.heap.size->C.At s u W->Off K C.b u->Room N s->∀f y n,in64 f->in64 y->in64 n->
   Calls Tryz.prog g (#[.int .i64 f,.int .i64 y,.int .i64 n]++caps) W (MkP C (c f y n s) u W)
section
variable {C:FgC} {K L:Nat->Prop} {val:Value} {c:Way} {N M:Nat} {w w':World} {s s':FgS} {u u':Value}
theorem WayP.more (h:WayP C K val c N w)(hk:∀x,K x->L x)(hn:N<=M):WayP C L val c M w:=by
 obtain⟨g,caps,h1,h2,h3,h4⟩:=h;exact⟨g,caps,h1,h2,λf y n s=>(h3 f y n s).mono hn,λW s u a1 a0 a2 a3 a4=>h4 W s u (a1.mono hk) a0 a2 (λx hx=>a3 x (hk x hx)) (a4.less hn)⟩
theorem WayP.later (h:WayP C K val c N w)(hs:SameS K w w')(hl:w.heap.size<=w'.heap.size):WayP C K val c N w':=by
 obtain⟨g,caps,h1,h2,h3,h4⟩:=h;exact⟨g,caps,h1,h2,h3,λW s u a1 a0=>h4 W s u (hs.trans a1) (leq9 hl a0)⟩
theorem zfi (hm:Made C.b u u' w w')(ho:Off K C.b u)(hk:∀x,K x->x < w.heap.size):SameS K w w'/\Off K C.b u':=by
 refine⟨hm.fr.same λx hx=>⟨hk x hx,ho x hx⟩,λx hx=>?_⟩;rintro(e|e)
 ·exact ho x hx (.inl e)
 ·rcases hm.row x e with e2|e2
  ·exact ho x hx (.inr e2)
  ·have:=hk x hx;omega
theorem zhp (h:C.At s u w)(from_ to_ at_ kind n cmp:Int)(G9:in64 from_/\in64 to_/\in8 kind/\in64 n/\in8 cmp/\in64 at_)(xs:Exs)(S:Nat->Prop)(Z:Prop)(A:Option Addr)(c:Nat)(hS:∀x,S x->x < C.B)(hz:szQ xs)(hx:SlR (λb o=>ExR w S Z xs b o) xs.len 64 A c)(hr:Room 1 s):
  Calls Tryz.prog 138 #[.pointer (some ⟨C.b,0,none⟩),.int .i64 from_,.int .i64 to_,.int .i64 at_,.agg #[.int .u8 kind,.int .i64 n,.int .u8 cmp,.slice none 0 0],.slice A xs.len c] w (MkP C (C.put s from_ to_ at_ kind n cmp xs) u w):=
 zlv h C.r1 C.r2 from_ to_ at_ kind n cmp G9 _ rfl xs S Z A c hS hz hx (by obtain⟨_,_,h3⟩:=hr;omega)
theorem zj3 (h:C.At s u w)(from_ to_ at_ kind n cmp:Int)(G9:in64 from_/\in64 to_/\in8 kind/\in64 n/\in8 cmp/\in64 at_)(hr:Room 1 s):
  Calls Tryz.prog 138 #[.pointer (some ⟨C.b,0,none⟩),.int .i64 from_,.int .i64 to_,.int .i64 at_,.agg #[.int .u8 kind,.int .i64 n,.int .u8 cmp,.slice none 0 0],.slice none 0 0] w (MkP C (C.put s from_ to_ at_ kind n cmp .nil) u w):=
 zhp h from_ to_ at_ kind n cmp G9 .nil (λ_=>False) False none 0 (λ_ h=>h.elim) trivial ⟨lrq _,by decide,λh=>absurd h (Nat.lt_irrefl _)⟩ hr
theorem zgR (h:C.At s u w)(hr:Room 1 s):Calls Tryz.prog 139 #[.pointer (some ⟨C.b,0,none⟩)] w λe w'=>e= .returned (.int .i64 s.nodes)/\C.At s.node u w'/\Made C.b u u w w':=
 zlu h hr.1 (by obtain⟨h1,h2,_⟩:=hr;omega)
end
theorem zbj (k:Int)(h0:0<=k)(h1:k<=255):in8 k:=⟨h0,by omega⟩
theorem zbR (k:Int)(h0:0<=k)(h1:k<=255):in64 k:=⟨by omega,by omega⟩
structure Boxes (C:FgC)(K:Nat->Prop)(p q:Nat)(at_:Int)(w:World):Prop where
 kp:K p
 kq:K q
 ptr:w.cell? ⟨p,0,none⟩=some (.pointer (some ⟨C.b,0,none⟩))
 atc:w.cell? ⟨q,3,none⟩=some (.int .i64 at_)
 in_:in64 at_
section
variable {C:FgC} {K:Nat->Prop} {p q:Nat} {at_:Int} {w:World}
theorem zil {b:Nat}{W:World}{p q:Nat}{at_ f y n:Int}{R:Ending->World->Prop}(c0:W.cell? ⟨p,0,none⟩=some (.pointer (some ⟨b,0,none⟩)))(c3:W.cell? ⟨q,3,none⟩=some (.int .i64 at_))
  (hc:Calls Tryz.prog 138 #[.pointer (some ⟨b,0,none⟩),.int .i64 f,.int .i64 y,.int .i64 at_,.agg #[.int .u8 1,.int .i64 0,.int .u8 0,.slice none 0 0],.slice none 0 0] W R) (hR:∀e w',R e w'->e= .returned (.tuple #[])):
  Calls Tryz.prog 213 #[.int .i64 f,.int .i64 y,.int .i64 n,.pointer (some ⟨p,0,none⟩),.pointer (some ⟨q,0,none⟩)] W R:=by
 have HC:=hdq hc;have HR:=hdq hR;clear hc hR;go_enter Tryz.func213,Tryz.ntmps213;go_wp2_with fail;refine HC.mono ?_;intro e w2 h2;obtain rfl:=HR _ _ h2;have H2:=hdq h2;clear h2;go_wp2_with fail;go_end0;exact H2.out
theorem way_1 (hb:Boxes C K p q at_ w)(hent:Enters Tryz.prog 213):WayP C K (.func (.func 213) #[] #[.pointer (some ⟨p,0,none⟩),.pointer (some ⟨q,0,none⟩)]) (λf y n s=>C.put s f y at_ 1 0 0 .nil) 1 w:=
 ⟨_,_,rfl,hent,λf y n s=>zcH C s _ _ _ _ _ _ _,λW s u hs hl h ho hr f y n hf hy hn=>
  zil (((hs ⟨p,0,none⟩ hb.kp).1).trans hb.ptr) (((hs ⟨q,3,none⟩ hb.kq).1).trans hb.atc) (zj3 h f y at_ 1 0 0 ⟨hf,hy,zbj 1 (by decide) (by decide),zbR 0 (by decide) (by decide),zbj 0 (by decide) (by decide),hb.in_⟩ hr) λe w' h=>h.choose_spec.1⟩
theorem zim {b:Nat}{W:World}{p q:Nat}{at_ f y n:Int}{R:Ending->World->Prop}(c0:W.cell? ⟨p,0,none⟩=some (.pointer (some ⟨b,0,none⟩)))(c3:W.cell? ⟨q,3,none⟩=some (.int .i64 at_))
  (hc:Calls Tryz.prog 138 #[.pointer (some ⟨b,0,none⟩),.int .i64 f,.int .i64 n,.int .i64 at_,.agg #[.int .u8 1,.int .i64 0,.int .u8 0,.slice none 0 0],.slice none 0 0] W R) (hR:∀e w',R e w'->e= .returned (.tuple #[])):
  Calls Tryz.prog 214 #[.int .i64 f,.int .i64 y,.int .i64 n,.pointer (some ⟨p,0,none⟩),.pointer (some ⟨q,0,none⟩)] W R:=by
 have HC:=hdq hc;have HR:=hdq hR;clear hc hR;go_enter Tryz.func214,Tryz.ntmps214;go_wp2_with fail;refine HC.mono ?_;intro e w2 h2;obtain rfl:=HR _ _ h2;have H2:=hdq h2;clear h2;go_wp2_with fail;go_end0;exact H2.out
theorem way_2 (hb:Boxes C K p q at_ w)(hent:Enters Tryz.prog 214):WayP C K (.func (.func 214) #[] #[.pointer (some ⟨p,0,none⟩),.pointer (some ⟨q,0,none⟩)]) (λf y n s=>C.put s f n at_ 1 0 0 .nil) 1 w:=
 ⟨_,_,rfl,hent,λf y n s=>zcH C s _ _ _ _ _ _ _,λW s u hs hl h ho hr f y n hf hy hn=>
  zim (((hs ⟨p,0,none⟩ hb.kp).1).trans hb.ptr) (((hs ⟨q,3,none⟩ hb.kq).1).trans hb.atc) (zj3 h f n at_ 1 0 0 ⟨hf,hn,zbj 1 (by decide) (by decide),zbR 0 (by decide) (by decide),zbj 0 (by decide) (by decide),hb.in_⟩ hr) λe w' h=>h.choose_spec.1⟩
theorem way_3 {x:Nat}{v0:Value}{c0:Way}{N:Nat}(hx:K x)(cx:w.cell? ⟨x,0,none⟩=some v0)(hv:WayP C K v0 c0 N w)(hent:Enters Tryz.prog 215):WayP C K (.func (.func 215) #[] #[.pointer (some ⟨x,0,none⟩)]) (λf y n s=>c0 f n y s) N w:=by
 obtain⟨g,caps,rfl,hg,Td,GR⟩:=hv;refine⟨_,_,rfl,hent,λf y n s=>Td f n y s,λW s u hs hl h ho hr f y n hf hy hn=>?_⟩;have c1:=((hs ⟨x,0,none⟩ hx).1).trans cx;have HC:=hdq (GR W s u hs hl h ho hr f n y hf hn hy);clear hs h ho hr hf hy hn GR Td hent cx;show Calls Tryz.prog 215 #[.int .i64 f,.int .i64 y,.int .i64 n,.pointer (some ⟨x,0,none⟩)] W _
 unfold Enters at hg;go_enter Tryz.func215,Tryz.ntmps215;go_wp2_with fail;refine HC.mono ?_;rintro _ w2 ⟨u',rfl,h2⟩;have H2:=hdq h2;clear h2;go_wp2_with fail;go_end0;exact⟨_,rfl,H2.out⟩
theorem zin {b g0 g1 x z:Nat}{caps0 caps1:Array Value}{k nd:Int}{W:World}{f y n:Int}{N1 N2:World->Prop}{R:Ending->World->Prop}(Km:Enters Tryz.prog g0)(Tp:Enters Tryz.prog g1)
  (c0:W.cell? ⟨p,0,none⟩=some (.pointer (some ⟨b,0,none⟩))) (hn:Calls Tryz.prog 139 #[.pointer (some ⟨b,0,none⟩)] W λe w'=>e= .returned (.int .i64 nd)/\N1 w')
  (h1:∀w',N1 w'->w'.cell? ⟨q,0,none⟩=some (.int .u8 k)/\w'.cell? ⟨x,0,none⟩=some (.func (.func g0) #[] caps0)/\Calls Tryz.prog g0 (#[.int .i64 f,.int .i64 (if k=10 then nd else y),.int .i64 (if k=10 then n else nd)]++caps0) w' λe w'=>e= .returned (.tuple #[])/\N2 w')
  (h2:∀w',N2 w'->w'.cell? ⟨z,0,none⟩=some (.func (.func g1) #[] caps1)/\Calls Tryz.prog g1 (#[.int .i64 nd,.int .i64 y,.int .i64 n]++caps1) w' R) (hR:∀e w',R e w'->e= .returned (.tuple #[])):
  Calls Tryz.prog 216 #[.int .i64 f,.int .i64 y,.int .i64 n,.pointer (some ⟨p,0,none⟩),.pointer (some ⟨q,0,none⟩),.pointer (some ⟨x,0,none⟩),.pointer (some ⟨z,0,none⟩)] W R:=by
 unfold Enters at Km Tp;have HN:=hdq hn;have H1:=hdq h1;have H2:=hdq h2;have HR:=hdq hR;clear hn h1 h2 hR;by_cases hk:k=10
 case' pos=>
  simp only[if_pos hk]at H1;have k1:(k==10)=true:=by simpa using hk
 case' neg=>
  simp only[if_neg hk]at H1;have k1:(k==10)=false:=by simpa using hk
 all_goals
  clear hk;go_enter Tryz.func216,Tryz.ntmps216;go_wp2_with fail;refine HN.mono ?_;rintro _ w2 ⟨rfl,n1⟩;obtain⟨d1,d2,hc⟩:=H1 _ n1;have HC:=hdq hc;clear hc n1;go_wp2_with fail;refine HC.mono ?_;rintro _ w3 ⟨rfl,n2⟩;obtain⟨d3,hc⟩:=H2 _ n2;have FZ:=hdq hc;clear hc n2 d1 d2;go_wp2_with fail;refine FZ.mono ?_;intro e w4 h4;obtain rfl:=HR _ _ h4;have H4:=hdq h4;clear h4;go_wp2_with fail;go_end0;exact H4.out
theorem way_4 {x z:Nat}{v0 v1:Value}{c0 c1:Way}{N M:Nat}{k:Int}(hb:Boxes C K p q at_ w)(hq:w.cell? ⟨q,0,none⟩=some (.int .u8 k))(kC:∀x,K x->x < w.heap.size)(hx:K x)(cx:w.cell? ⟨x,0,none⟩=some v0)(hv:WayP C K v0 c0 N w)(hz:K z)(cz:w.cell? ⟨z,0,none⟩=some v1)(FF:WayP C K v1 c1 M w)(hent:Enters Tryz.prog 216):
  WayP C K (.func (.func 216) #[] #[.pointer (some ⟨p,0,none⟩),.pointer (some ⟨q,0,none⟩),.pointer (some ⟨x,0,none⟩),.pointer (some ⟨z,0,none⟩)])
   (λf y n s=>c1 s.nodes y n (c0 f (if k=10 then s.nodes else y) (if k=10 then n else s.nodes) s.node)) (1+N+M) w:=by
 obtain⟨g0,caps0,rfl,Km,YV,Wy⟩:=hv;obtain⟨g1,caps1,rfl,Tp,kD,Ma⟩:=FF;refine⟨_,_,rfl,hent,λf y n s=>((zah s).trans (YV _ _ _ _)).trans (kD _ _ _ _),λW s u hs hl h ho hr f y n hf hy hn=>?_⟩;have YW:∀x,K x->x < W.heap.size:=λx hx=>ltq (kC x hx) hl;have J4:Room (N+M) s.node:=Room.after (N:=1) (by rw[<-Nat.add_assoc];exact hr) (zah s);have hi:=hr.in_;have xx:in64 (if k=10 then s.nodes else y):=by split<;>assumption
 have UT:in64 (if k=10 then n else s.nodes):=by split<;>assumption
 refine zin (k:=k) (caps0:=caps0) (caps1:=caps1) (N1:=λw'=>C.At s.node u w'/\Made C.b u u W w') (N2:=λw'=>∃u',C.At (c0 f (if k=10 then s.nodes else y) (if k=10 then n else s.nodes) s.node) u' w'/\Made C.b u u' W w') Km Tp (((hs ⟨p,0,none⟩ hb.kp).1).trans hb.ptr) (zgR h (hr.less (by omega))) (λw' YX=>?_) (λw' YX=>?_) λe w' h=>h.choose_spec.1
 ·obtain⟨Hd,hm⟩:=YX;obtain⟨s1,o1⟩:=zfi hm ho YW;have Fs:=hs.trans s1;refine⟨((Fs ⟨q,0,none⟩ hb.kq).1).trans hq,((Fs ⟨x,0,none⟩ hx).1).trans cx,(Wy w' _ u Fs (leq9 hl hm.fr.size) Hd o1 (J4.less (by omega)) f _ _ hf xx UT).mono ?_⟩;rintro e w2 ⟨u',rfl,GT,Fg⟩;exact⟨rfl,u',GT,hm.trans Fg⟩
 ·obtain⟨u1,Hd,hm⟩:=YX;obtain⟨s1,o1⟩:=zfi hm ho YW;have Fs:=hs.trans s1;refine⟨((Fs ⟨z,0,none⟩ hz).1).trans cz,(Ma w' _ u1 Fs (leq9 hl hm.fr.size) Hd o1 (J4.after (YV _ _ _ _)) _ y n hi hy hn).mono ?_⟩;rintro e w2 ⟨u',rfl,GT,Fg⟩;exact⟨u',rfl,GT,hm.trans Fg⟩
end
theorem znA (k:Int)(h1:3<=k)(h2:k<=8)(w:World):(Instr.index 289 (.agg #[.int .u8 0,.int .u8 0,.int .u8 0,.int .u8 6,.int .u8 5,.int .u8 4,.int .u8 3,.int .u8 8,.int .u8 7]) (.int .u8 k)).run Tryz.prog w= .ok (.int .u8 (oppK k)) w:=by
 rcases(show k=3\/k=4\/k=5\/k=6\/k=7\/k=8 from by omega)with rfl|rfl|rfl|rfl|rfl|rfl<;>kernel_rfl
theorem zly (k:Int)(h1:3<=k)(h2:k<=8)(w:World):Calls Tryz.prog 218 #[.int .u8 k] w λe w'=>e= .returned (.int .u8 (oppK k))/\w=w':=by
 have xy:=znA k h1 h2;obtain⟨ko,YY⟩:=nmq (oppK k);rw[<-YY]at xy ⊢;clear h1 h2 YY;go_enter Tryz.func218,Tryz.ntmps218;go_wp2_with fail;go_ret;exact⟨rfl,rfl⟩
section
variable {C:FgC} {K:Nat->Prop} {p q:Nat} {at_:Int} {w:World}
def Way5 (b p q:Nat)(k at_:Int)(sl:Value)(W:World):Prop:=W.cell? ⟨p,0,none⟩=some (.pointer (some ⟨b,0,none⟩))/\W.cell? ⟨q,0,none⟩=some (.int .u8 k)/\W.cell? ⟨q,1,none⟩=some sl/\W.cell? ⟨q,3,none⟩=some (.int .i64 at_)
theorem zio {b p q:Nat}{k at_ f y n:Int}{W:World}{sl:Value}{N1:World->Prop}{R:Ending->World->Prop}(h1:3<=k)(h2:k<=8)(hw:Way5 b p q k at_ sl W)
  (hc:Calls Tryz.prog 138 #[.pointer (some ⟨b,0,none⟩),.int .i64 f,.int .i64 y,.int .i64 at_,.agg #[.int .u8 6,.int .i64 0,.int .u8 k,.slice none 0 0],sl] W λe w'=>e= .returned (.tuple #[])/\N1 w')
  (hk:∀w',N1 w'->Way5 b p q k at_ sl w'/\∀w2,Fr NoT w' w2->Way5 b p q k at_ sl w2/\Calls Tryz.prog 138 #[.pointer (some ⟨b,0,none⟩),.int .i64 f,.int .i64 n,.int .i64 at_,.agg #[.int .u8 6,.int .i64 0,.int .u8 (oppK k),.slice none 0 0],sl] w2 R) (hR:∀e w',R e w'->e= .returned (.tuple #[])):
  Calls Tryz.prog 217 #[.int .i64 f,.int .i64 y,.int .i64 n,.pointer (some ⟨p,0,none⟩),.pointer (some ⟨q,0,none⟩)] W R:=by
 have HO:=hdq (zly k h1 h2);obtain⟨c0,q0,q1,q3⟩:=hw;obtain⟨ko,YY⟩:=nmq (oppK k);rw[<-YY]at HO hk;have HC:=hdq hc;have HK:=hdq hk;have HR:=hdq hR;clear hc hk hR h1 h2 YY;go_enter Tryz.func217,Tryz.ntmps217;go_wp2_with fail;refine HC.mono ?_;rintro _ w2 ⟨rfl,n1⟩;obtain⟨FU,KG⟩:=HK _ n1;have FZ:=hdq KG;clear KG n1 HK HC c0 q0 q1 q3;go_wp2_with fail;refine zad (Way5 b p q k at_ sl) (λi=>decide (i < 11)) (by kernel_rfl) (FZ _ ((Fr.refl NoT w2).drew)).1 (λhHeld=>?_);refine zaa 1 ?_;simp only[putsL];refine zaa 2 ?_;simp only[putsL];refine zaa 3 ?_;simp only[putsL];refine zaa 5 ?_;simp only[putsL];refine zaa 9 ?_;simp only[putsL];refine zaD 0 hHeld ?_;simp only[putsL];refine zaD 4 hHeld ?_;simp only[putsL];refine zaD 6 hHeld ?_;simp only[putsL];refine zaD 10 hHeld ?_;simp only[putsL];refine zab 7 rfl (by kernel_rfl) (λKK hK=>?_);go_simp;go_at_call 218;refine(HO _).mono ?_;rintro _ w3 ⟨rfl,rfl⟩;try dsimp only
 refine hK _ _ (λ_ h=>h) ?_;clear hK KK;try simp only[putsL]
 refine zaa 8 ?_;simp only[putsL];refine zab 11 rfl (by kernel_rfl) (λKK hK=>?_);go_simp;go_at_call 138;refine((FZ _ ((Fr.refl NoT w2).drew)).2).mono ?_;intro e w4 h4;obtain rfl:=HR _ _ h4;have H4:=hdq h4;clear h4;try dsimp only
 refine hK _ _ (λh=>absurd h (by decide)) ?_;clear hK KK;try simp only[putsL]
 refine zai (by kernel_rfl) ?_;go_wp2_with fail;go_end0;exact H4.out
theorem znB (k:Int)(h1:3<=k)(h2:k<=8):in8 (oppK k):=by
 rcases(show k=3\/k=4\/k=5\/k=6\/k=7\/k=8 from by omega)with rfl|rfl|rfl|rfl|rfl|rfl<;>exact zbj _ (by decide) (by decide)
theorem way_5 {k:Int}{args:Exs}{S:Nat->Prop}{Z:Prop}{A:Option Addr}{c:Nat}(hb:Boxes C K p q at_ w)(hq:w.cell? ⟨q,0,none⟩=some (.int .u8 k))(ha:w.cell? ⟨q,1,none⟩=some (.slice A args.len c))(h1:3<=k)(h2:k<=8)(kC:∀x,K x->x < w.heap.size)(hS:∀x,S x->K x/\x < C.B)(hz:szQ args)(hx:SlR (λb o=>ExR w S Z args b o) args.len 64 A c)(hent:Enters Tryz.prog 217):
  WayP C K (.func (.func 217) #[] #[.pointer (some ⟨p,0,none⟩),.pointer (some ⟨q,0,none⟩)]) (λf y n s=>C.put (C.put s f y at_ 6 0 k args) f n at_ 6 0 (oppK k) args) 2 w:=by
 refine⟨_,_,rfl,hent,λf y n s=>(zcH C s _ _ _ _ _ _ _).trans (zcH C _ _ _ _ _ _ _ _),λW s u hs hl h ho hr f y n hf hy hn=>?_⟩;have YW:∀x,K x->x < W.heap.size:=λx hx=>ltq (kC x hx) hl;have Hk:in8 k:=zbj k (by omega) (by omega);have Mv:∀W',SameS K w W'->SlR (λb o=>ExR W' S Z args b o) args.len 64 A c:=λW' h=>hx.imp λ_ _ hx=>ExR.keep (h.mono λb hb=>(hS b hb).1) hx;have Hc:∀W',SameS K w W'->Way5 C.b p q k at_ (.slice A args.len c) W':=λW' h=>⟨((h ⟨p,0,none⟩ hb.kp).1).trans hb.ptr,((h ⟨q,0,none⟩ hb.kq).1).trans hq,((h ⟨q,1,none⟩ hb.kq).1).trans ha,((h ⟨q,3,none⟩ hb.kq).1).trans hb.atc⟩;refine zio (N1:=λw'=>∃u',C.At (C.put s f y at_ 6 0 k args) u' w'/\Made C.b u u' W w') h1 h2 (Hc _ hs) ((zhp h f y at_ 6 0 k ⟨hf,hy,zbj 6 (by decide) (by decide),zbR 0 (by decide) (by decide),Hk,hb.in_⟩ args S Z A c (λx hx=>(hS x hx).2) hz (Mv _ hs) (hr.less (by omega))).mono ?_) (λw' YX=>?_) λe w' h=>h.choose_spec.1
 ·rintro e w2 ⟨u',rfl,GT,Fg⟩;exact⟨rfl,u',GT,Fg⟩
 ·obtain⟨u1,Hd,hm⟩:=YX;obtain⟨s1,o1⟩:=zfi hm ho YW;have Fs:=hs.trans s1;refine⟨Hc _ Fs,λw2 Gd=>?_⟩;have Ft:SameS K w w2:=Fs.trans (Gd.same λx hx=>⟨ltq (YW x hx) hm.fr.size,id⟩);refine⟨Hc _ Ft,(zhp (Hd.fr0 Gd) f n at_ 6 0 (oppK k) ⟨hf,hn,zbj 6 (by decide) (by decide),zbR 0 (by decide) (by decide),znB k h1 h2,hb.in_⟩ args S Z A c (λx hx=>(hS x hx).2) hz (Mv _ Ft) (Room.after (N:=1) hr (zcH C s _ _ _ _ _ _ _))).mono ?_⟩;rintro e w3 ⟨u',rfl,Lb,JF⟩;exact⟨u',rfl,Lb,hm.trans ((Made.of Gd).trans JF)⟩
end
def szN:Cds->Nat
 | .nil =>0
 | .cons _ _ of_ _ r=>2+szN of_+szN r
def wfD (k:Int)(args:Exs)(of_:Cds):Prop:=szQ args/\1<=k/\k<=11/\(k=9->1<=of_.len)/\(k=10\/k=11->2<=of_.len)
def wfC:Cds->Prop
 | .nil =>True
 | .cons k args of_ _ r=>wfD k args of_/\wfC of_/\wfC r
def CondP (C:FgC)(c:Way)(N:Nat)(W:World)(e:Ending)(w':World):Prop:=∃val,e= .returned val/\Fr NoT W w'/\WayP C (FgK C.B W.heap.size w'.heap.size) val c N w'
def zci (C:FgC)(k:Int)(args:Exs)(of_:Cds)(at_:Int):Prop:=
 ∀(W:World)(S:Nat->Prop)(Z:Prop)(A A2:Option Addr)(c c2:Nat),C.B<=W.heap.size->(∀x,S x->x < C.B)->in64 at_->SlR (λb o=>ExR W S Z args b o) args.len 64 A c->SlR (λb o=>CdR W S Z of_ b o) of_.len 64 A2 c2->
  Calls Tryz.prog 186 #[.pointer (some ⟨C.b,0,none⟩),.agg #[.int .u8 k,.slice A args.len c,.slice A2 of_.len c2,.int .i64 at_]] W (CondP C (wayC C.sc C.ar k args (zaw C.sc C.ar of_) at_) (2+szN of_) W)
theorem zj4 (w:World)(c0 c1:Array Value)(t0 t1:TypeId):Bk ((w.alloc (.cells c0 t0)).alloc (.cells c1 t1)) w.heap.size t0 c0/\Bk ((w.alloc (.cells c0 t0)).alloc (.cells c1 t1)) (w.heap.size+1) t1 c1:=
 ⟨(Bk.new _ _ _).alloc _,Bk.new_at _ _ _ (by simp)⟩
structure Two (C:FgC)(k:Int)(A A2:Option Addr)(l c l2 c2:Nat)(at_:Int)(W w:World):Prop where
 fr:Fr NoT W w
 bp:Bk w W.heap.size 131 #[.pointer (some ⟨C.b,0,none⟩)]
 bq:Bk w (W.heap.size+1) 160 #[.int .u8 k,.slice A l c,.slice A2 l2 c2,.int .i64 at_]
section
variable {C:FgC} {k:Int} {A A2:Option Addr} {l c l2 c2:Nat} {at_:Int} {W w w':World}
theorem Two.next (h:Two C k A A2 l c l2 c2 at_ W w)(hf:Fr NoT w w'):Two C k A A2 l c l2 c2 at_ W w':=⟨h.fr.trans hf,h.bp.fr0 hf,h.bq.fr0 hf⟩
theorem Two.boxes (h:Two C k A A2 l c l2 c2 at_ W w)(Gb:in64 at_):Boxes C (FgK C.B W.heap.size w.heap.size) W.heap.size (W.heap.size+1) at_ w:=
 ⟨.inr ⟨lrq _,h.bp.lt⟩,.inr ⟨Nat.le_succ _,h.bq.lt⟩,h.bp.cell 0,h.bq.cell 3,Gb⟩
theorem zmm (h:Two C k A A2 l c l2 c2 at_ W w)(hB:C.B<=W.heap.size):∀x,FgK C.B W.heap.size w.heap.size x->x < w.heap.size:=by
 have h1:=h.bp.lt;rintro x (hx|hx)
 ·omega
 ·exact hx.2
theorem zb2 {c c':Way}{N M:Nat}{val:Value}{K:Nat->Prop}(h:WayP C K val c N w)(e:c=c')(hn:N<=M):WayP C K val c' M w:=e▸h.more (λ_ h=>h) hn
end
def Cnd7 (p q b o:Nat)(P A2:Option Addr)(l2 c2:Nat)(v0 v1 v2 v3:Value)(W:World):Prop:=W.cell? ⟨p,0,none⟩=some (.pointer P)/\W.cell? ⟨q,2,none⟩=some (.slice A2 l2 c2)/\W.cell? ⟨b,o,none⟩=some v0/\W.cell? ⟨b,o+1,none⟩=some v1/\W.cell? ⟨b,o+2,none⟩=some v2/\W.cell? ⟨b,o+3,none⟩=some v3
theorem Cnd7.fr {p q b o l2 c2:Nat}{P A2:Option Addr}{v0 v1 v2 v3:Value}{W w':World}(h:Cnd7 p q b o P A2 l2 c2 v0 v1 v2 v3 W)(hf:Fr NoT W w')(hp:p < W.heap.size)(hq:q < W.heap.size)(hb:b < W.heap.size):Cnd7 p q b o P A2 l2 c2 v0 v1 v2 v3 w':=
 ⟨(hf.cell hp id).trans h.1,(hf.cell hq id).trans h.2.1,(hf.cell hb id).trans h.2.2.1,(hf.cell hb id).trans h.2.2.2.1,(hf.cell hb id).trans h.2.2.2.2.1,(hf.cell hb id).trans h.2.2.2.2.2⟩
theorem zj5 (C:FgC)(k:Int)(args:Exs)(of_:Cds)(at_:Int)(hz:szQ args)(h1:1<=k)(h2:k<=8):zci C k args of_ at_:=by
 intro W S Z A A2 c c2 hB hS Gb hx Fv;obtain⟨l,hl⟩:=nmq args.len;obtain⟨l2,Gl⟩:=nmq of_.len;have HX:=hdq (aiq hB (aiq hS (aiq Gb hx)));have kE:=hdq hl;obtain⟨b,hb⟩:=nmq C.b;have hT:∀w',w'=(W.alloc (.cells #[.pointer (some ⟨b,0,none⟩)] 131)).alloc (.cells #[.int .u8 k,.slice A l c,.slice A2 l2 c2,.int .i64 at_] 160)->Two C k A A2 l c l2 c2 at_ W w':=λw' e=>by
  rw[hb]at e;have kk:=zj4 W #[.pointer (some ⟨C.b,0,none⟩)] #[.int .u8 k,.slice A l c,.slice A2 l2 c2,.int .i64 at_] 131 160;rw[<-e]at kk;exact⟨by rw[e];exact((Fr.refl _ _).alloc _).alloc _,kk.1,kk.2⟩
 have HT:=hdq hT;have HB:=hdq hb;rw[<-hl,<-Gl,<-hb];clear hT hB hS Gb hx Fv hl Gl hb;rcases(show k=1\/k=2\/(3<=k/\k<=8)from by omega)with rfl|rfl|⟨h3,_⟩
 ·go_enter Tryz.func186,Tryz.ntmps186;go_wp2_with fail;go_ret;have hT:=HT _ rfl;exact⟨_,rfl,hT.fr,zb2 (way_1 (hT.boxes HX.2.2.1) (enters_of Tryz.func213 (by kernel_rfl) rfl)) (by funext f y n s;rfl) (by omega)⟩
 ·go_enter Tryz.func186,Tryz.ntmps186;go_wp2_with fail;go_ret;have hT:=HT _ rfl;exact⟨_,rfl,hT.fr,zb2 (way_2 (hT.boxes HX.2.2.1) (enters_of Tryz.func214 (by kernel_rfl) rfl)) (by funext f y n s;rfl) (by omega)⟩
 ·have k1:(k==1)=false:=by simp;omega
  have k2:(k==2)=false:=by simp;omega
  have k9:(k==9)=false:=by simp;omega
  have EJ:(k==10)=false:=by simp;omega
  have k11:(k==11)=false:=by simp;omega
  have HK:=hdq (aiq h3 h2);clear h1 h2 h3;go_enter Tryz.func186,Tryz.ntmps186;go_wp2_with fail;go_ret;have hT:=HT _ rfl;obtain⟨h3,h2⟩:=HK.out;obtain⟨hB,hS,Gb,hx⟩:=HX.out;have gR:=(hT.bq.cell 1).trans (show _=some (.slice A args.len c)from by simp[kE.out]);exact⟨_,rfl,hT.fr,zb2 (way_5 (S:=S) (Z:=Z) (hT.boxes Gb) (hT.bq.cell 0) gR h3 h2 (zmm hT hB) (λx hx=>⟨.inl (hS x hx),hS x hx⟩) hz (hx.imp λ_ _ hx=>ExR.keep (hT.fr.same λb hb=>⟨ltq (hS b hb) hB,id⟩) hx) (enters_of Tryz.func217 (by kernel_rfl) rfl)) (by
   funext f y n s
   simp only[wayC,FgC.put];rw[if_neg (by omega),if_neg (by omega),if_neg (by omega),if_neg (by omega),if_neg (by omega)]) (by omega)⟩
def WayA (C:FgC)(w2:World)(g1 g2:Option Nat)(c:Way)(N:Nat)(v:Value)(w:World):Prop:=
 ∃lo hi,w2.heap.size<=lo/\lo<=hi/\hi<=w.heap.size/\(∀g,g1=some g->g < lo\/hi<=g)/\(∀g,g2=some g->g < lo\/hi<=g)/\WayP C (FgK C.B lo hi) v c N w
theorem zfj {C:FgC}{lo hi:Nat}{w w':World}(hf:Fr NoT w w')(hB:C.B<=w.heap.size)(Dk:hi<=w.heap.size):SameS (FgK C.B lo hi) w w':=
 hf.same λx hx=>⟨by rcases hx with h|h<;>omega,id⟩
theorem WayA.next {C:FgC}{w2 w w':World}{g1 g2:Option Nat}{c:Way}{N:Nat}{v:Value}(h:WayA C w2 g1 g2 c N v w)(hf:Fr NoT w w')(hB:C.B<=w.heap.size):WayA C w2 g1 g2 c N v w':=by
 obtain⟨lo,hi,h1,h2,h3,h4,h5,h6⟩:=h;exact⟨lo,hi,h1,h2,leq9 h3 hf.size,h4,h5,h6.later (zfj hf hB h3) hf.size⟩
structure CI (C:FgC)(w2:World)(c0 c1:Way)(N0 N1:Nat)(o1 o2:Option Value)(g1 g2:Option Nat)(w:World):Prop where
 fr:Fr NoT w2 w
 v1:∀v,o1=some v->WayA C w2 g1 g2 c0 N0 v w
 v2:∀v,o2=some v->WayA C w2 g1 g2 c1 N1 v w
 b1:∀g,g1=some g->w2.heap.size<=g/\Bk w g 246 #[.nilFunc]
 b2:∀g,g2=some g->w2.heap.size<=g/\Bk w g 246 #[.nilFunc]
 ne:∀g h,g1=some g->g2=some h->g≠h
 ord:∀v,o2=some v->o1≠none
section
variable {C:FgC} {w2 w w':World} {c0 c1:Way} {N0 N1:Nat} {o1 o2:Option Value} {g1 g2:Option Nat} {v:Value}
theorem CI.zero (w2:World):CI C w2 c0 c1 N0 N1 none none none none w2:=⟨Fr.refl _ _,λ_ h=>(by cases h),λ_ h=>(by cases h),λ_ h=>(by cases h),λ_ h=>(by cases h),λ_ _ h=>(by cases h),λ_ h=>(by cases h)⟩
theorem CI.base (h:CI C w2 c0 c1 N0 N1 o1 o2 g1 g2 w)(hB:C.B<=w2.heap.size):C.B<=w.heap.size:=leq9 hB h.fr.size
theorem zhq (h:CI C w2 c0 c1 N0 N1 o1 o2 g1 g2 w){c:Way}{N:Nat}(hc:WayP C (FgK C.B w.heap.size w'.heap.size) v c N w')(hf:Fr NoT w w'):WayA C w2 g1 g2 c N v w':=
 ⟨w.heap.size,w'.heap.size,h.fr.size,hf.size,lrq _,λg e=> .inl (h.b1 g e).2.lt,λg e=> .inl (h.b2 g e).2.lt,hc⟩
theorem CI.call1 (h:CI C w2 c0 c1 N0 N1 none none g1 g2 w)(hB:C.B<=w2.heap.size)(hf:Fr NoT w w')(hc:WayP C (FgK C.B w.heap.size w'.heap.size) v c0 N0 w'):CI C w2 c0 c1 N0 N1 (some v) none g1 g2 w':=
 ⟨h.fr.trans hf,λu e=>by cases e;exact zhq h hc hf,λ_ h=>(by cases h),λg e=>⟨(h.b1 g e).1,(h.b1 g e).2.fr0 hf⟩,λg e=>⟨(h.b2 g e).1,(h.b2 g e).2.fr0 hf⟩,h.ne,λ_ h=>(by cases h)⟩
theorem CI.call2 {u:Value}(h:CI C w2 c0 c1 N0 N1 (some u) none g1 g2 w)(hB:C.B<=w2.heap.size)(hf:Fr NoT w w')(hc:WayP C (FgK C.B w.heap.size w'.heap.size) v c1 N1 w'):CI C w2 c0 c1 N0 N1 (some u) (some v) g1 g2 w':=
 ⟨h.fr.trans hf,λu e=>(h.v1 u e).next hf (h.base hB),λu e=>by cases e;exact zhq h hc hf,λg e=>⟨(h.b1 g e).1,(h.b1 g e).2.fr0 hf⟩,λg e=>⟨(h.b2 g e).1,(h.b2 g e).2.fr0 hf⟩,h.ne,λ_ _ h=>(by cases h)⟩
theorem zj6 (h:WayA C w2 none g2 c0 N0 v w)(hB:C.B<=w.heap.size)(o:Obj):WayA C w2 (some w.heap.size) g2 c0 N0 v (w.alloc o):=by
 obtain⟨lo,hi,h1,h2,h3,h4,h5,h6⟩:=h.next (w':=w.alloc o) ((Fr.refl _ _).alloc o) hB;obtain⟨lo',Qe,k1,k2,k3,k4,k5,k6⟩:=h;exact⟨lo',Qe,k1,k2,leq9 k3 (by simp),λg e=>by cases e;exact .inr k3,k5,k6.later (zfj ((Fr.refl _ _).alloc o) hB k3) (by simp)⟩
theorem zhr (h:WayA C w2 g1 none c0 N0 v w)(hB:C.B<=w.heap.size)(o:Obj):WayA C w2 g1 (some w.heap.size) c0 N0 v (w.alloc o):=by
 obtain⟨lo',Qe,k1,k2,k3,k4,k5,k6⟩:=h;exact⟨lo',Qe,k1,k2,leq9 k3 (by simp),k4,λg e=>by cases e;exact .inr k3,k6.later (zfj ((Fr.refl _ _).alloc o) hB k3) (by simp)⟩
theorem CI.al1 (h:CI C w2 c0 c1 N0 N1 o1 o2 none g2 w)(hB:C.B<=w2.heap.size):CI C w2 c0 c1 N0 N1 o1 o2 (some w.heap.size) g2 (w.alloc (.cells #[.nilFunc] 246)):=
 ⟨h.fr.alloc _,λu e=>zj6 (h.v1 u e) (h.base hB) _,λu e=>zj6 (h.v2 u e) (h.base hB) _,λg e=>by cases e;exact⟨h.fr.size,Bk.new _ _ _⟩,λg e=>⟨(h.b2 g e).1,(h.b2 g e).2.alloc _⟩,λg q e e2=>by cases e;exact Nat.ne_of_gt (h.b2 q e2).2.lt,h.ord⟩
theorem CI.al2 (h:CI C w2 c0 c1 N0 N1 o1 o2 g1 none w)(hB:C.B<=w2.heap.size):CI C w2 c0 c1 N0 N1 o1 o2 g1 (some w.heap.size) (w.alloc (.cells #[.nilFunc] 246)):=
 ⟨h.fr.alloc _,λu e=>zhr (h.v1 u e) (h.base hB) _,λu e=>zhr (h.v2 u e) (h.base hB) _,λg e=>⟨(h.b1 g e).1,(h.b1 g e).2.alloc _⟩,λg e=>by cases e;exact⟨h.fr.size,Bk.new _ _ _⟩,λg q e e2=>by cases e2;exact Nat.ne_of_lt (h.b1 g e).2.lt,h.ord⟩
structure Held (C:FgC)(w2:World)(c:Way)(N g:Nat)(v:Value)(w':World):Prop where
 lo:w2.heap.size<=g
 hi:g < w'.heap.size
 cell:w'.cell? ⟨g,0,none⟩=some v
 way:WayP C (FgK C.B w2.heap.size w'.heap.size) v c N w'
theorem zcI {g:Nat}{u:Value}(h:WayA C w2 g1 g2 c0 N0 v w)(hg:g1=some g\/g2=some g)(hl:w2.heap.size<=g)(hB:C.B<=w2.heap.size):WayA C w2 g1 g2 c0 N0 v (w.setCell ⟨g,0,none⟩ u):=by
 obtain⟨lo,hi,h1,h2,h3,h4,h5,h6⟩:=h;have Xv:g < lo\/hi<=g:=by rcases hg with e|e;exact h4 g e;exact h5 g e
 have hf:Fr (λb=>b=g) w (w.setCell ⟨g,0,none⟩ u):=Fr.own (Fr.refl _ _) 0 u;have Dl:C.B<=lo:=leq9 hB h1;exact⟨lo,hi,h1,h2,leq9 h3 hf.size,h4,h5,h6.later (hf.same λx hx=>⟨by rcases hx with h|h<;>omega,λe=>by
  have e:x=g:=e;rcases hx with h|h<;>omega⟩) hf.size⟩
theorem zfk (h:WayA C w2 g1 g2 c0 N0 v w):WayP C (FgK C.B w2.heap.size w.heap.size) v c0 N0 w:=by
 obtain⟨lo,hi,h1,h2,h3,h4,h5,h6⟩:=h;exact h6.more (λx hx=>by rcases hx with h|h;exact .inl h;exact .inr ⟨by omega,by omega⟩) (lrq _)
theorem CI.fin1 {g:Nat}(h:CI C w2 c0 c1 N0 N1 (some v) none (some g) none w)(hB:C.B<=w2.heap.size):Fr NoT w2 (w.setCell ⟨g,0,none⟩ v)/\Held C w2 c0 N0 g v (w.setCell ⟨g,0,none⟩ v):=by
 obtain⟨hg,hb⟩:=h.b1 g rfl;have FL:=hb.set_ 0 v;exact⟨h.fr.high hg 0 v,hg,FL.lt,FL.cell 0,zfk (zcI (h.v1 v rfl) (.inl rfl) hg hB)⟩
theorem CI.fin2 {g q:Nat}{u:Value}(h:CI C w2 c0 c1 N0 N1 (some v) (some u) (some g) (some q) w)(hB:C.B<=w2.heap.size):Fr NoT w2 ((w.setCell ⟨g,0,none⟩ v).setCell ⟨q,0,none⟩ u)/\Held C w2 c0 N0 g v ((w.setCell ⟨g,0,none⟩ v).setCell ⟨q,0,none⟩ u)/\Held C w2 c1 N1 q u ((w.setCell ⟨g,0,none⟩ v).setCell ⟨q,0,none⟩ u):=by
 obtain⟨hg,hb⟩:=h.b1 g rfl;obtain⟨hq,kb⟩:=h.b2 q rfl;have GU:=h.ne g q rfl rfl;have FL:=(hb.set_ 0 v).far (p:=⟨q,0,none⟩) GU u;have kb2:=(kb.far (p:=⟨g,0,none⟩) (Ne.symm GU) v).set_ 0 u;exact⟨(h.fr.high hg 0 v).high hq 0 u,⟨hg,FL.lt,FL.cell 0,zfk (zcI (zcI (h.v1 v rfl) (.inl rfl) hg hB) (.inr rfl) hq hB)⟩,⟨hq,kb2.lt,kb2.cell 0,zfk (zcI (zcI (h.v2 u rfl) (.inl rfl) hg hB) (.inr rfl) hq hB)⟩⟩
end
theorem Two.of {C:FgC}{k:Int}{A A2:Option Addr}{l c l2 c2:Nat}{at_:Int}{W w':World}(e:w'=(W.alloc (.cells #[.pointer (some ⟨C.b,0,none⟩)] 131)).alloc (.cells #[.int .u8 k,.slice A l c,.slice A2 l2 c2,.int .i64 at_] 160)):Two C k A A2 l c l2 c2 at_ W w':=by
 have kk:=zj4 W #[.pointer (some ⟨C.b,0,none⟩)] #[.int .u8 k,.slice A l c,.slice A2 l2 c2,.int .i64 at_] 131 160;rw[<-e]at kk;exact⟨by rw[e];exact((Fr.refl _ _).alloc _).alloc _,kk.1,kk.2⟩
theorem zlz (C:FgC)(args:Exs)(of_:Cds)(at_:Int)(k0:Int)(a0:Exs)(o0:Cds)(t0:Int)(r0:Cds)(ho:of_= .cons k0 a0 o0 t0 r0)(h0:zci C k0 a0 o0 t0):zci C 9 args of_ at_:=by
 intro W S Z A A2 c c2 hB hS Gb hx Fv;obtain⟨b2,o2,rfl,Hd⟩:=Fv.2.2 (by rw[ho];simp[Cds.len]);rw[ho]at Hd;obtain⟨⟨Hf,_,r1,r2,e0,e3⟩,⟨A3,c3,e1,s1⟩,⟨A4,c4,e2,s2⟩,_⟩:=Hd;obtain⟨l,hl⟩:=nmq args.len;obtain⟨l2,Gl⟩:=nmq of_.len;have RN:0 < l2:=by rw[Gl,ho];simp[Cds.len]
 have RO:l2<=9223372036854775807:=by rw[Gl];exact leq9 Fv.1 Fv.2.1.1
 obtain⟨l3,Gz⟩:=nmq a0.len;obtain⟨l4,Gy⟩:=nmq o0.len;obtain⟨w2,FU⟩:=nmq ((W.alloc (.cells #[.pointer (some ⟨C.b,0,none⟩)] 131)).alloc (.cells #[.int .u8 9,.slice A l c,.slice (some ⟨b2,o2,none⟩) l2 c2,.int .i64 at_] 160));have hT:=Two.of FU;have UW:C.B<=w2.heap.size:=leq9 hB hT.fr.size;have M6:b2 < W.heap.size:=ltq (hS _ Hf) hB;have FL:b2 < w2.heap.size:=ltq M6 hT.fr.size;have GW:SameS S W w2.drew:=(hT.fr.drew).same λb hb=>⟨ltq (hS b hb) hB,id⟩;have GR:∀w',Fr NoT w2.drew w'->_:=λw' hf=>h0 w' S Z A3 A4 c3 c4 (leq9 UW hf.size) hS r2 (s1.imp λ_ _ hx=>ExR.keep (GW.trans (hf.same λb hb=>⟨ltq (ltq (hS b hb) hB) hT.fr.size,id⟩)) hx) (s2.imp λ_ _ hx=>CdR.keep (GW.trans (hf.same λb hb=>⟨ltq (ltq (hS b hb) hB) hT.fr.size,id⟩)) hx);have Ft:Cnd7 W.heap.size (W.heap.size+1) b2 o2 (some ⟨C.b,0,none⟩) (some ⟨b2,o2,none⟩) l2 c2 (.int .u8 k0) (.slice A3 l3 c3) (.slice A4 l4 c4) (.int .i64 t0) w2:=
  ⟨hT.bp.cell 0,hT.bq.cell 2,(hT.fr.cell M6 id).trans e0,(hT.fr.cell M6 id).trans (by rw[Gz];exact e1),(hT.fr.cell M6 id).trans (by rw[Gy];exact e2),(hT.fr.cell M6 id).trans e3⟩
 have Mx:=hdq Ft;obtain⟨b,hb⟩:=nmq C.b;rw[<-Gz,<-Gy,<-hb]at GR;have HC:=hdq GR;have HT:=hdq hT;have HB:=hdq hb;have HH:=hdq (aiq FL (aiq hB (aiq M6 (show C.B<=w2.drew.heap.size from UW))));rw[<-hb]at FU;have HW:=hdq FU;have HO:=hdq ho;rw[<-hl,<-Gl,<-hb];clear GR hT hb Ft FU hB hS Gb hx Fv hl Gl Gz Gy Hf r1 r2 e0 e1 e2 e3 s1 s2 GW UW M6 FL ho h0;go_enter Tryz.func186,Tryz.ntmps186;go_wp2_with fail;rw[<-HW.out];have Kz:=Mx.out;rw[<-HB.out]at Kz;refine zad (Cnd7 W.heap.size (W.heap.size+1) b2 o2 (some ⟨b,0,none⟩) (some ⟨b2,o2,none⟩) l2 c2 (.int .u8 k0) (.slice A3 l3 c3) (.slice A4 l4 c4) (.int .i64 t0)) (λi=>decide (i < 7)) (by kernel_rfl) (by exact Kz) (λhHeld=>?_);clear Kz;refine zaa 1 ?_;simp only[putsL];refine zaD 0 hHeld ?_;simp only[putsL];refine zaD 2 hHeld ?_;simp only[putsL];refine zaa 3 ?_;simp only[putsL];refine zaD 4 hHeld ?_;simp only[putsL];refine zj0 5 6 23 5 (by decide) (λv g w=>CI C w2.drew (wayC C.sc C.ar k0 a0 (zaw C.sc C.ar o0) t0) (λ_ _ _ s=>s) (2+szN o0) 0 v none g none w) (λv g w' Jw=>?_) (by kernel_rfl) ⟨by kernel_rfl,by kernel_rfl,by kernel_rfl⟩ (λg w' Jw=>?_) (λv w' Jw=>?_) (λv g w' Jw=>?_) (CI.zero _)
 ·have hs:=Mx.fr (((Fr.refl NoT w2).drew).trans Jw.fr) HT.bp.lt HT.bq.lt HH.1;rw[<-HB.out]at hs;exact hs
 ·cases g;all_goals
   simp only[putO,ptrO,Option.map_none,Option.map_some];refine wpOp_step (zaM rfl) (λKK hK=>?_);go_simp;go_at_call 186;refine(HC w' Jw.fr).mono ?_;rintro _ w5 ⟨v0,rfl,Hs,UN⟩;try dsimp only
   refine hK _ _ ?_;exact⟨v0,by kernel_rfl,Jw.call1 HH.2.2.2 Hs UN⟩
 ·cases v;all_goals
   simp only[putO,ptrO,Option.map_none,Option.map_some];refine wpOp_step (zaM rfl) (λKK hK=>?_);go_simp;refine hK _ _ ?_;exact⟨_,by kernel_rfl,Jw.al1 HH.2.2.2⟩
 ·simp only[putO,ptrO,Option.map_none,Option.map_some];obtain⟨_,_,_,_,_,_,_,gg,cps,QA,_⟩:=Jw.v1 v rfl;subst QA;obtain⟨Gw,hh⟩:=Jw.fin1 HH.2.2.2;have JG:=hdq Gw;have xz:=hdq hh;have F0:=(Jw.b1 g rfl).2.cell 0;have Rl:=(Jw.b1 g rfl).2.frozen 0;have MQ:=(Jw.b1 g rfl).2.lt;simp only[getsL]at F0;clear Jw Gw hh HC hHeld;refine zab 7 rfl (by kernel_rfl) (λKK hK=>?_);go_simp;refine hK _ _ (λh=>absurd h (by decide)) ?_;clear hK KK;try simp only[putsL]
  refine zai (by kernel_rfl) ?_;go_wp2_with fail;go_ret;have hT:=HT.next (((Fr.refl NoT w2).drew).trans JG.out);have h2:=xz.out;have S6:W.heap.size<=w2.drew.heap.size:=HT.fr.size;refine⟨_,rfl,hT.fr,zb2 (way_3 (.inr ⟨leq9 S6 h2.lo,h2.hi⟩) h2.cell (h2.way.more (λx hx=>?_) (lrq _)) (enters_of Tryz.func215 (by kernel_rfl) rfl)) ?_ ?_⟩
  ·rcases hx with h|h
   ·exact .inl h
   ·exact .inr ⟨leq9 S6 h.1,h.2⟩
  ·rw[HO.out]
   funext f y n s
   rfl
  ·rw[HO.out];simp only[szN];omega
def Cnd11 (p q b o:Nat)(P A2:Option Addr)(l2 c2:Nat)(v0 v1 v2 v3 u0 u1 u2 u3:Value)(W:World):Prop:=Cnd7 p q b o P A2 l2 c2 v0 v1 v2 v3 W/\W.cell? ⟨b,o+4,none⟩=some u0/\W.cell? ⟨b,o+4+1,none⟩=some u1/\W.cell? ⟨b,o+4+2,none⟩=some u2/\W.cell? ⟨b,o+4+3,none⟩=some u3
theorem Cnd11.fr {p q b o l2 c2:Nat}{P A2:Option Addr}{v0 v1 v2 v3 u0 u1 u2 u3:Value}{W w':World}(h:Cnd11 p q b o P A2 l2 c2 v0 v1 v2 v3 u0 u1 u2 u3 W)(hf:Fr NoT W w')(hp:p < W.heap.size)(hq:q < W.heap.size)(hb:b < W.heap.size):Cnd11 p q b o P A2 l2 c2 v0 v1 v2 v3 u0 u1 u2 u3 w':=
 ⟨h.1.fr hf hp hq hb,(hf.cell hb id).trans h.2.1,(hf.cell hb id).trans h.2.2.1,(hf.cell hb id).trans h.2.2.2.1,(hf.cell hb id).trans h.2.2.2.2⟩
theorem zlA (C:FgC)(k:Int)(hk:k=10\/k=11)(args:Exs)(of_:Cds)(at_:Int)(k0:Int)(a0:Exs)(o0:Cds)(t0:Int)(k1:Int)(a1:Exs)(o1:Cds)(t1:Int)(r1:Cds)(ho:of_= .cons k0 a0 o0 t0 (.cons k1 a1 o1 t1 r1))(h0:zci C k0 a0 o0 t0)(h1:zci C k1 a1 o1 t1):zci C k args of_ at_:=by
 intro W S Z A A2 c c2 hB hS Gb hx Fv;obtain⟨b2,o2,rfl,Hd⟩:=Fv.2.2 (by rw[ho];simp[Cds.len]);rw[ho]at Hd;obtain⟨⟨Hf,_,r1_,r2,e0,e3⟩,⟨A3,c3,e1,s1⟩,⟨A4,c4,e2,s2⟩,GT⟩:=Hd;obtain⟨⟨_,_,r1',r2',Eo,EC⟩,⟨A5,c5,En,s1'⟩,⟨A6,c6,EB,s2'⟩,_⟩:=GT;obtain⟨l,hl⟩:=nmq args.len;obtain⟨l2,Gl⟩:=nmq of_.len;have RN:1 < l2:=by rw[Gl,ho];simp[Cds.len]
 have xA:0 < l2:=by omega
 have TS:(1:Int) < (l2:Int):=by omega
 have RO:l2<=9223372036854775807:=by rw[Gl];exact leq9 Fv.1 Fv.2.1.1
 obtain⟨l3,Gz⟩:=nmq a0.len;obtain⟨l4,Gy⟩:=nmq o0.len;obtain⟨l5,GN⟩:=nmq a1.len;obtain⟨l6,Jc⟩:=nmq o1.len;obtain⟨w2,FU⟩:=nmq ((W.alloc (.cells #[.pointer (some ⟨C.b,0,none⟩)] 131)).alloc (.cells #[.int .u8 k,.slice A l c,.slice (some ⟨b2,o2,none⟩) l2 c2,.int .i64 at_] 160));have hT:=Two.of FU;have UW:C.B<=w2.heap.size:=leq9 hB hT.fr.size;have M6:b2 < W.heap.size:=ltq (hS _ Hf) hB;have FL:b2 < w2.heap.size:=ltq M6 hT.fr.size;have GW:∀w',Fr NoT w2.drew w'->SameS S W w':=λw' hf=>((hT.fr.drew).same λb hb=>⟨ltq (hS b hb) hB,id⟩).trans (hf.same λb hb=>⟨ltq (ltq (hS b hb) hB) hT.fr.size,id⟩);have GR:∀w',Fr NoT w2.drew w'->_:=λw' hf=>h0 w' S Z A3 A4 c3 c4 (leq9 UW hf.size) hS r2 (s1.imp λ_ _ hx=>ExR.keep (GW w' hf) hx) (s2.imp λ_ _ hx=>CdR.keep (GW w' hf) hx);have Ma:∀w',Fr NoT w2.drew w'->_:=λw' hf=>h1 w' S Z A5 A6 c5 c6 (leq9 UW hf.size) hS r2' (s1'.imp λ_ _ hx=>ExR.keep (GW w' hf) hx) (s2'.imp λ_ _ hx=>CdR.keep (GW w' hf) hx);have Ft:Cnd11 W.heap.size (W.heap.size+1) b2 o2 (some ⟨C.b,0,none⟩) (some ⟨b2,o2,none⟩) l2 c2 (.int .u8 k0) (.slice A3 l3 c3) (.slice A4 l4 c4) (.int .i64 t0) (.int .u8 k1) (.slice A5 l5 c5) (.slice A6 l6 c6) (.int .i64 t1) w2:=
  ⟨⟨hT.bp.cell 0,hT.bq.cell 2,(hT.fr.cell M6 id).trans e0,(hT.fr.cell M6 id).trans (by rw[Gz];exact e1),(hT.fr.cell M6 id).trans (by rw[Gy];exact e2),(hT.fr.cell M6 id).trans e3⟩,(hT.fr.cell M6 id).trans Eo,(hT.fr.cell M6 id).trans (by rw[GN];exact En),(hT.fr.cell M6 id).trans (by rw[Jc];exact EB),(hT.fr.cell M6 id).trans EC⟩
 have Mx:=hdq Ft;obtain⟨b,hb⟩:=nmq C.b;rw[<-Gz,<-Gy,<-hb]at GR;rw[<-GN,<-Jc,<-hb]at Ma;have HC:=hdq GR;have K1:=hdq Ma;have HT:=hdq hT;have HB:=hdq hb;have HH:=hdq (aiq FL (aiq hB (aiq M6 (aiq (show C.B<=w2.drew.heap.size from UW) Gb))));rw[<-hb]at FU;have HW:=hdq FU;have HO:=hdq ho;rw[<-hl,<-Gl,<-hb];have HK:=hdq hk;have q1:(k==1)=false:=by simp;omega
 have q2:(k==2)=false:=by simp;omega
 have q9:(k==9)=false:=by simp;omega
 have qs:(k==10)=true\/(k==10)=false/\(k==11)=true:=by rcases hk with rfl|rfl<;>simp
 clear GR Ma hT hb Ft FU hB hS Gb hx Fv hl Gl Gz Gy GN Jc Hf r1_ r2 r1' r2' e0 e1 e2 e3 Eo En EB EC s1 s2 s1' s2' GW UW M6 FL ho h0 h1 hk;rcases qs with q10|⟨q10,q11⟩;all_goals
  go_enter Tryz.func186,Tryz.ntmps186;go_wp2_with fail;rw[<-HW.out];have Kz:=Mx.out;rw[<-HB.out]at Kz;refine zad (Cnd11 W.heap.size (W.heap.size+1) b2 o2 (some ⟨b,0,none⟩) (some ⟨b2,o2,none⟩) l2 c2 (.int .u8 k0) (.slice A3 l3 c3) (.slice A4 l4 c4) (.int .i64 t0) (.int .u8 k1) (.slice A5 l5 c5) (.slice A6 l6 c6) (.int .i64 t1)) (λi=>decide (i < 15)) (by kernel_rfl) (by exact Kz) (λhHeld=>?_);clear Kz;refine zaa 1 ?_;simp only[putsL];refine zaR 0 (v:=?_) rfl (by kernel_rfl) (λ_ _ _ h=>h) hHeld (by rfl) ?_ ?_;rotate_left
  ·intro wz Gq;(try dsimp only[Cnd11,Cnd7]at Gq);go_simp;try with_reducible rfl
  try simp only[putsL]
  refine zaR 2 (v:=?_) rfl (by kernel_rfl) (λ_ _ _ h=>h) hHeld (by rfl) ?_ ?_;rotate_left
  ·intro wz Gq;(try dsimp only[Cnd11,Cnd7]at Gq);go_simp;try with_reducible rfl
  try simp only[putsL]
  refine zaa 3 ?_;simp only[putsL];refine zaR 4 (v:=?_) rfl (by kernel_rfl) (λ_ _ _ h=>h) hHeld (by rfl) ?_ ?_;rotate_left
  ·intro wz Gq;(try dsimp only[Cnd11,Cnd7]at Gq);go_simp;try with_reducible rfl
  try simp only[putsL]
  refine zaa 7 ?_;simp only[putsL];refine zaR 6 (v:=?_) rfl (by kernel_rfl) (λ_ _ _ h=>h) hHeld (by rfl) ?_ ?_;rotate_left
  ·intro wz Gq;(try dsimp only[Cnd11,Cnd7]at Gq);go_simp;try with_reducible rfl
  try simp only[putsL]
  refine zaR 8 (v:=?_) rfl (by kernel_rfl) (λ_ _ _ h=>h) hHeld (by rfl) ?_ ?_;rotate_left
  ·intro wz Gq;(try dsimp only[Cnd11,Cnd7]at Gq);go_simp;try with_reducible rfl
  try simp only[putsL]
  refine zaa 9 ?_;simp only[putsL];refine zaR 10 (v:=?_) rfl (by kernel_rfl) (λ_ _ _ h=>h) hHeld (by rfl) ?_ ?_;rotate_left
  ·intro wz Gq;(try dsimp only[Cnd11,Cnd7]at Gq);go_simp;try with_reducible rfl
  try simp only[putsL]
  refine zj1 5 11 12 13 33 39 6 7 (by decide) (λu v g h w=>CI C w2.drew (wayC C.sc C.ar k0 a0 (zaw C.sc C.ar o0) t0) (wayC C.sc C.ar k1 a1 (zaw C.sc C.ar o1) t1) (2+szN o0) (2+szN o1) u v g h w) (λu v g h w' Jw=>?_) (by kernel_rfl) (λb c d e XJ=>?_) (λg h w' Jw=>?_) (λu g h w' Jw=>?_) (λu v h w' Jw=>?_) (λu v g w' Jw=>?_) (λv g h w' Jw=>Jw.ord v rfl rfl) (λu v g h w' Jw=>?_) (CI.zero _)
  ·have hs:=Mx.fr (((Fr.refl NoT w2).drew).trans Jw.fr) HT.bp.lt HT.bq.lt HH.1;rw[<-HB.out]at hs;exact hs
  ·cases b<;>cases c<;>cases d<;>cases e<;>first|(exact absurd (XJ rfl) (by decide))|(exact .inr rfl)|exact .inl (by kernel_rfl)
  ·cases g<;>cases h;all_goals
    simp only[putO,ptrO,Option.map_none,Option.map_some];refine wpOp_step (zaM rfl) (λKK hK=>?_);go_simp;go_at_call 186;refine(HC w' Jw.fr).mono ?_;rintro _ w5 ⟨v0,rfl,Hs,UN⟩;try dsimp only
    refine hK _ _ ?_;exact⟨v0,by kernel_rfl,Jw.call1 HH.2.2.2.1 Hs UN⟩
  ·cases g<;>cases h;all_goals
    simp only[putO,ptrO,Option.map_none,Option.map_some];refine wpOp_step (zaM rfl) (λKK hK=>?_);go_simp;go_at_call 186;refine(K1 w' Jw.fr).mono ?_;rintro _ w5 ⟨v0,rfl,Hs,UN⟩;try dsimp only
    refine hK _ _ ?_;exact⟨v0,by kernel_rfl,Jw.call2 HH.2.2.2.1 Hs UN⟩
  ·cases u<;>cases v<;>cases h<;>try exact(Jw.ord _ rfl rfl).elim
   all_goals
    simp only[putO,ptrO,Option.map_none,Option.map_some];refine wpOp_step (zaM rfl) (λKK hK=>?_);go_simp;refine hK _ _ ?_;exact⟨_,by kernel_rfl,Jw.al1 HH.2.2.2.1⟩
  ·cases u<;>cases v<;>cases g<;>try exact(Jw.ord _ rfl rfl).elim
   all_goals
    simp only[putO,ptrO,Option.map_none,Option.map_some];refine wpOp_step (zaM rfl) (λKK hK=>?_);go_simp;refine hK _ _ ?_;exact⟨_,by kernel_rfl,Jw.al2 HH.2.2.2.1⟩
  ·simp only[putO,ptrO,Option.map_none,Option.map_some];obtain⟨_,_,_,_,_,_,_,gg,cps,QA,_⟩:=Jw.v1 u rfl;subst QA;obtain⟨_,_,_,_,_,_,_,gg2,cps2,QA,_⟩:=Jw.v2 v rfl;subst QA;have HF:=hdq (Jw.fin2 HH.2.2.2.1);have Wz:=Mx.fr ((((Fr.refl NoT w2).drew).trans Jw.fr).high (Jw.b1 g rfl).1 0 (.func (.func gg) #[] cps)) HT.bp.lt HT.bq.lt HH.1;rw[<-HB.out]at Wz;have kF:=hdq Wz;clear Wz;have F0:=(Jw.b1 g rfl).2.cell 0;have Rl:=(Jw.b1 g rfl).2.frozen 0;have MQ:=(Jw.b1 g rfl).2.lt;have Kt:=(Jw.b2 h rfl).2.cell 0;have Dm:=(Jw.b2 h rfl).2.frozen 0;have Dn:=(Jw.b2 h rfl).2.lt;have GU:=Jw.ne g h rfl rfl;have NK:=Ne.symm GU;simp only[getsL]at F0 Kt;clear Jw hHeld;refine zab 14 rfl (by kernel_rfl) (λKK hK=>?_);go_simp;refine hK _ _ (λ_ _=>kF.out) ?_;clear hK KK;try simp only[putsL]
   refine zab 15 rfl (by kernel_rfl) (λKK hK=>?_);go_simp;refine hK _ _ (λh=>absurd h (by decide)) ?_;clear hK KK;try simp only[putsL]
   refine zai (by kernel_rfl) ?_;go_wp2_with fail;go_ret;obtain⟨Gw,h1,h2⟩:=HF.out;have hT:=HT.next (((Fr.refl NoT w2).drew).trans Gw);have S6:W.heap.size<=w2.drew.heap.size:=HT.fr.size;have YZ:∀hi x,FgK C.B w2.drew.heap.size hi x->FgK C.B W.heap.size hi x:=λhi x hx=>hx.elim Or.inl λh=>Or.inr ⟨leq9 S6 h.1,h.2⟩;refine⟨_,rfl,hT.fr,zb2 (way_4 (k:=k) (hT.boxes HH.2.2.2.2) (hT.bq.cell 0) (zmm hT HH.2.1) (.inr ⟨leq9 S6 h1.lo,h1.hi⟩) h1.cell (h1.way.more (YZ _) (lrq _)) (.inr ⟨leq9 S6 h2.lo,h2.hi⟩) h2.cell (h2.way.more (YZ _) (lrq _)) (enters_of Tryz.func216 (by kernel_rfl) rfl)) ?_ ?_⟩
   ·rw[HO.out]
    funext f y n s
    rcases HK.out with rfl|rfl<;>rfl
   ·rw[HO.out];simp only[szN];omega
theorem zj7 (C:FgC)(k:Int)(args:Exs)(of_:Cds)(at_:Int)(hw:wfD k args of_)(h:∀i k0 a0 o0 t0 r0,Cds.drop i of_= .cons k0 a0 o0 t0 r0->zci C k0 a0 o0 t0):zci C k args of_ at_:=by
 obtain⟨hz,h1,h2,h9,M0⟩:=hw;by_cases h8:k<=8
 ·exact zj5 C k args of_ at_ hz h1 h8
 ·rcases(show k=9\/k=10\/k=11 from by omega)with e|e
  ·cases of_ with
   |nil=>exact absurd (h9 e) (by simp[Cds.len])
   |cons k0 a0 o0 t0 r0=>rw[e];exact zlz C args _ at_ k0 a0 o0 t0 r0 rfl (h 0 _ _ _ _ _ rfl)
  ·cases of_ with
   |nil=>exact absurd (M0 e) (by simp[Cds.len])
   |cons k0 a0 o0 t0 r0=>
    cases r0 with
    |nil=>exact absurd (M0 e) (by simp[Cds.len])
    |cons k1 a1 o1 t1 r1=>exact zlA C k e args _ at_ k0 a0 o0 t0 k1 a1 o1 t1 r1 rfl (h 0 _ _ _ _ _ rfl) (h 1 _ _ _ _ _ rfl)
theorem zdX (C:FgC):∀xs:Cds,wfC xs->∀i k0 a0 o0 t0 r0,Cds.drop i xs= .cons k0 a0 o0 t0 r0->zci C k0 a0 o0 t0
 | .nil,_,i,_,_,_,_,_,h=>by cases i<;>simp[Cds.drop]at h
 | .cons k args of_ at_ r,hw,0,k0,a0,o0,t0,r0,h=>by
  simp only[Cds.drop,Cds.cons.injEq]at h;obtain⟨rfl,rfl,rfl,rfl,_⟩:=h;exact zj7 C _ _ _ _ hw.1 (zdX C _ hw.2.1)
 | .cons k args of_ at_ r,hw,i+1,k0,a0,o0,t0,r0,h=>by
  simp only[Cds.drop]at h;exact zdX C r hw.2.2 i k0 a0 o0 t0 r0 h
theorem zj8 (C:FgC)(k:Int)(args:Exs)(of_:Cds)(at_:Int)(r:Cds)(h:wfC (.cons k args of_ at_ r)):zci C k args of_ at_:=zdX C _ h 0 _ _ _ _ _ rfl
def szM (cond:Cds)(b e:Nat):Nat:=8+szN cond+b+e
def szT:Sts->Nat
 | .nil =>0
 | .cons _ _ _ cond body els _ r=>1+szM cond (szT body) (szT els)+szT r
theorem Grow.refl (N:Nat)(s:FgS):Grow N s s:=by
 unfold Grow;refine⟨Int.le_refl _,?_,?_⟩<;>omega
theorem za5 (sc ar:NoN)(s:FgS)(a b c d e f:Int)(xs:Exs):Grow 1 s (s.put sc ar a b c d e f xs):=by
 unfold Grow FgS.put;refine⟨?_,?_,?_⟩<;>simp;omega
def szW:Cds->Nat->Nat
 | .nil,_=>0
 | .cons _ _ of_ _ _,0=>2+szN of_
 | .cons _ _ _ _ r,i+1=>szW r i
theorem zhs:∀(xs:Cds)(i:Nat),szW xs i<=szN xs
 | .nil,_=>lrq _
 | .cons _ _ of_ _ r,0=>by simp only[szW,szN];omega
 | .cons _ _ of_ _ r,i+1=>by have:=zhs r i;simp only[szW,szN];omega
theorem zmN:∀xs:Cds,szW xs 0+szW xs 1<=szN xs
 | .nil =>lrq _
 | .cons _ _ of_ _ r=>by have:=zhs r 0;simp only[szW,szN];omega
theorem zaX (sc ar:NoN):∀(xs:Cds)(i:Nat)(f y n:Int)(s:FgS),Grow (szW xs i) s (nthW (zaw sc ar xs) i f y n s)
 | .nil,i,f,y,n,s=>by
  simp only[zaw,nthW,List.getD_nil];exact Grow.refl _ _
 | .cons k args of_ at_ r,i+1,f,y,n,s=>by
  have:=zaX sc ar r i f y n s;simp only[zaw,nthW,List.getD_cons_succ]at this ⊢;exact this
 | .cons k args of_ at_ r,0,f,y,n,s=>by
  have h:=zaX sc ar of_;have h2:=zmN of_;have h3:=zhs of_ 0;simp only[zaw,nthW,List.getD_cons_zero,szW];unfold wayC;split
  ·exact(za5 sc ar s _ _ _ _ _ _ _).mono (by omega)
  split
  ·exact(za5 sc ar s _ _ _ _ _ _ _).mono (by omega)
  split
  ·exact(h 0 f n y s).mono (by omega)
  split
  ·exact(((zah s).trans (h 0 _ _ _ _)).trans (h 1 _ _ _ _)).mono (by omega)
  split
  ·exact(((zah s).trans (h 0 _ _ _ _)).trans (h 1 _ _ _ _)).mono (by omega)
  ·exact((za5 sc ar s _ _ _ _ _ _ _).trans (za5 sc ar _ _ _ _ _ _ _ _)).mono (by omega)
theorem zj9 (sc ar:NoN)(xs:Cds)(f y n:Int)(s:FgS):Grow (szN xs) s (nthW (zaw sc ar xs) 0 f y n s):=(zaX sc ar xs 0 f y n s).mono (zhs xs 0)
theorem zdg (sc ar:NoN)(k:Int)(nm:ByteArray)(args:Exs)(cond:Cds)(b e:List Mk)(nb ne:Nat)(a f t:Int)(s:FgS)(hb:∀f t a s,Grow (1+nb) s (blkF sc ar b f t a s))(he:∀f t a s,Grow (1+ne) s (blkF sc ar e f t a s)):
  Grow (szM cond nb ne) s (stmF sc ar k nm args (zaw sc ar cond) b e a f t s):=by
 have h1:=λa b c d e f g s=>za5 sc ar s a b c d e f g;have h2:=zj9 sc ar cond;unfold stmF szM;split
 ·exact(h1 _ _ _ _ _ _ _ _).mono (by omega)
 split
 ·exact(h1 _ _ _ _ _ _ _ _).mono (by omega)
 split
 ·exact(h1 _ _ _ _ _ _ _ _).mono (by omega)
 split
 ·exact(h1 _ _ _ _ _ _ _ _).mono (by omega)
 split
 ·exact(((zah s).trans (h2 _ _ _ _)).trans (h1 _ _ _ _ _ _ _ _)).mono (by omega)
 split
 ·exact(((zah s).trans (h2 _ _ _ _)).trans (h1 _ _ _ _ _ _ _ _)).mono (by omega)
 split
 ·exact(((((zah s).trans (zah _)).trans (h2 _ _ _ _)).trans (hb _ _ _ _)).trans (he _ _ _ _)).mono (by omega)
 split
 ·exact(((((((zah s).trans (zah _)).trans (zah _)).trans (h1 _ _ _ _ _ _ _ _)).trans (h1 _ _ _ _ _ _ _ _)).trans (h2 _ _ _ _)).trans (hb _ _ _ _)).mono (by omega)
 ·exact Grow.refl _ _
theorem zaZ (sc ar:NoN):∀(xs:Sts)(f t a:Int)(s:FgS),Grow (1+szT xs) s (blkF sc ar (mksS sc ar xs) f t a s)
 | .nil,f,t,a,s=>by
  simp only[mksS,blkF];exact(za5 sc ar s _ _ _ _ _ _ _).mono (by omega)
 | .cons k nm args cond body els at_ .nil,f,t,a,s=>by
  simp only[mksS,blkF];exact(zdg sc ar k nm args cond _ _ (szT body) (szT els) at_ f t s (zaZ sc ar body) (zaZ sc ar els)).mono (by simp only[szT];omega)
 | .cons k nm args cond body els at_ (.cons k' DL DJ Ej Ek EE at' r),f,t,a,s=>by
  have h:=zaZ sc ar (.cons k' DL DJ Ej Ek EE at' r);simp only[mksS,blkF]at h ⊢;exact(((zah s).trans (zdg sc ar k nm args cond _ _ (szT body) (szT els) at_ f s.nodes s.node (zaZ sc ar body) (zaZ sc ar els))).trans (h _ _ _ _)).mono (by simp only[szT];omega)
def Cur (C:FgC)(u:Value)(W:World)(s:FgS)(w:World):Prop:=∃u',C.At s u' w/\Made C.b u u' W w
section
variable {C:FgC} {u:Value} {s s0:FgS} {W w w':World} {N:Nat}
theorem Cur.start (h:C.At s u w):Cur C u w s w:=⟨u,h,Made.refl _ _ _⟩
theorem Cur.fr0 (h:Cur C u W s w)(hf:Fr NoT w w'):Cur C u W s w':=by
 obtain⟨u',h1,h2⟩:=h;exact⟨u',h1.fr0 hf,h2.trans (Made.of hf)⟩
theorem Cur.bk {g:Nat}{t:TypeId}{cs:Array Value}(h:Cur C u W s w)(hk:Bk W g t cs)(hn:¬MOwn C.b u g):Bk w g t cs:=by
 obtain⟨u',h1,h2⟩:=h;exact(h2.bk hk hn).1
theorem Cur.same (h:Cur C u W s w)(h0:C.At s0 u W){S:Nat->Prop}(hS:∀x,S x->x < C.B):SameS S W w:=by
 obtain⟨u',h1,h2⟩:=h;exact h2.same h0 hS
theorem Cur.base (h:Cur C u W s w):C.B<=w.heap.size:=by
 obtain⟨u',h1,h2⟩:=h;exact MkS.base h1
def CurP (C:FgC)(u:Value)(W:World)(s:FgS)(e:Ending)(w':World):Prop:=e= .returned (.tuple #[])/\Cur C u W s w'
theorem Cur.of {s':FgS}{e:Ending}{u':Value}(h2:Made C.b u u' W w)(h:MkP C s' u' w e w'):CurP C u W s' e w':=by
 obtain⟨u2,e1,h3,h4⟩:=h;exact⟨e1,u2,h3,h2.trans h4⟩
theorem Cur.node (h:Cur C u W s w)(hr:Room 1 s):Calls Tryz.prog 139 #[.pointer (some ⟨C.b,0,none⟩)] w λe w'=>e= .returned (.int .i64 s.nodes)/\Cur C u W s.node w':=by
 obtain⟨u',h1,h2⟩:=h;exact(zgR h1 hr).mono λe w' h=>⟨h.1,u',h.2.1,h2.trans h.2.2⟩
theorem Cur.put (h:Cur C u W s w)(from_ to_ at_ kind n cmp:Int)(G9:in64 from_/\in64 to_/\in8 kind/\in64 n/\in8 cmp/\in64 at_)(xs:Exs)(S:Nat->Prop)(Z:Prop)(A:Option Addr)(c:Nat)(hS:∀x,S x->x < C.B)(hz:szQ xs)(hx:SlR (λb o=>ExR w S Z xs b o) xs.len 64 A c)(hr:Room 1 s):
  Calls Tryz.prog 138 #[.pointer (some ⟨C.b,0,none⟩),.int .i64 from_,.int .i64 to_,.int .i64 at_,.agg #[.int .u8 kind,.int .i64 n,.int .u8 cmp,.slice none 0 0],.slice A xs.len c] w (CurP C u W (s.put C.sc C.ar from_ to_ at_ kind n cmp xs)):=by
 obtain⟨u',h1,h2⟩:=h;exact(zhp h1 from_ to_ at_ kind n cmp G9 xs S Z A c hS hz hx hr).mono λe w' h=>Cur.of h2 h
theorem Cur.put0 (h:Cur C u W s w)(from_ to_ at_ kind n cmp:Int)(G9:in64 from_/\in64 to_/\in8 kind/\in64 n/\in8 cmp/\in64 at_)(hr:Room 1 s):
  Calls Tryz.prog 138 #[.pointer (some ⟨C.b,0,none⟩),.int .i64 from_,.int .i64 to_,.int .i64 at_,.agg #[.int .u8 kind,.int .i64 n,.int .u8 cmp,.slice none 0 0],.slice none 0 0] w (CurP C u W (s.put C.sc C.ar from_ to_ at_ kind n cmp .nil)):=by
 obtain⟨u',h1,h2⟩:=h;exact(zj3 h1 from_ to_ at_ kind n cmp G9 hr).mono λe w' h=>Cur.of h2 h
def WayN (C:FgC)(u:Value)(W:World)(s:FgS)(N:Nat)(val:Value)(c:Way)(w:World):Prop:=
 ∃g caps,val= .func (.func g) #[] caps/\Enters Tryz.prog g/\(Room N s->∀f y n,in64 f->in64 y->in64 n->Calls Tryz.prog g (#[.int .i64 f,.int .i64 y,.int .i64 n]++caps) w (CurP C u W (c f y n s)))
theorem Cur.cond (h:Cur C u W s w)(h0:C.At s0 u W)(k:Int)(args:Exs)(of_:Cds)(at_:Int)(hc:zci C k args of_ at_)(S:Nat->Prop)(Z:Prop)(A A2:Option Addr)(c c2:Nat)(hS:∀x,S x->x < C.B)(Gb:in64 at_)(hx:SlR (λb o=>ExR W S Z args b o) args.len 64 A c)(Fv:SlR (λb o=>CdR W S Z of_ b o) of_.len 64 A2 c2):
  Calls Tryz.prog 186 #[.pointer (some ⟨C.b,0,none⟩),.agg #[.int .u8 k,.slice A args.len c,.slice A2 of_.len c2,.int .i64 at_]] w λe w'=>∃val,e= .returned val/\Cur C u W s w'/\WayN C u W s (2+szN of_) val (wayC C.sc C.ar k args (zaw C.sc C.ar of_) at_) w':=by
 have hs:=h.same h0 hS;refine(hc w S Z A A2 c c2 h.base hS Gb (hx.imp λ_ _ hx=>ExR.keep hs hx) (Fv.imp λ_ _ hx=>CdR.keep hs hx)).mono ?_;rintro e w' ⟨val,rfl,hf,g,caps,hv,hg,_,GR⟩;obtain⟨u',k1,k2⟩:=h;refine⟨val,rfl,⟨u',k1.fr0 hf,k2.trans (Made.of hf)⟩,g,caps,hv,hg,λhr f y n xB hy hn=>(GR w' s u' (SameS.refl _ _) (lrq _) (k1.fr0 hf) (λx hx=>?_) hr f y n xB hy hn).mono λe w3 h=>Cur.of (k2.trans (Made.of hf)) h⟩;rcases hx with hx|hx
 ·exact MkS.low_ k1 hx
 ·exact MkS.new k1 hx.1
end
