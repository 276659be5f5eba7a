/- Plain. -/
import Derived.Test.YtfomomaomggpbaaGreatDoorJgLxFirst
import Derived.RegionDies
import Derived.Deep.RegionHeld3
set_option linter.all false
set_option maxRecDepth 100000
namespace Go.Proofs.YtfomomaomggpbaaGreatDoor
open Go.RowKit
inductive PR (α:Type) where
 |ok (a:α) (r:List Tk)
 |err (e:Int) (at_:Int)
def PR.then {α β:Type}(x:PR α)(f:α->List Tk->PR β):PR β:=match x with| .ok a r=>f a r| .err e a=> .err e a
def noB:ByteArray:=⟨#[]⟩
def hdT (l:List Tk):Tk:=l.headD ⟨0, [],0⟩
def txt (t:Tk):ByteArray:=⟨t.text.toArray⟩
def isP (signs:List (List UInt8))(l:List Tk):Int:=if(hdT l).kind =2 then -1 else Lib.idxOfS (signs.map λs=>(⟨s.toArray⟩:ByteArray)) (txt (hdT l))
def mayB (s:List UInt8)(l:List Tk):Bool:=isP [s] l==0
theorem znQ {a b:List UInt8}(h:(⟨a.toArray⟩:ByteArray)=⟨b.toArray⟩):a=b:=by simpa using h
theorem zgr {s:List UInt8}{l:List Tk}(h:mayB s l=true):(hdT l).text =s/\(hdT l).kind ≠2:=by
 unfold mayB isP at h;split at h
 ·simp at h
 ·rename_i hk;refine⟨?_,hk⟩;have h2:0<=Lib.idxOfS ([s].map λs=>(⟨s.toArray⟩:ByteArray)) (txt (hdT l)):=by rw[beq_iff_eq]at h;omega
  rw[Lib.idxOfS_nonneg_iff]at h2;simp[txt]at h2;exact h2
theorem zcK {signs:List (List UInt8)}{l:List Tk}(h:0<=isP signs l):(hdT l).text ∈signs/\(hdT l).kind ≠2:=by
 unfold isP at h;split at h
 ·omega
 ·rename_i hk;refine⟨?_,hk⟩;rw[Lib.idxOfS_nonneg_iff]at h;obtain⟨a,ha,e⟩:=List.mem_map.1 h;have:=znQ e;rw[<-this];exact ha
def zal (s:List UInt8)(l:List Tk):PR Unit:=if mayB s l then .ok () l.tail else .err 90 (hdT l).at_
def zaL (l:List Tk):Bool:=(hdT l).kind ==1&&zbk (hdT l).text
def zcu {α:Type}(s:List UInt8)(n:Nat)(l:List Tk)(f:Nat->List Tk->PR α):PR α:=
 if mayB s l then(match n with|0=> .err 91 (hdT l).at_ |n+1=>f n l.tail)else .err 90 (hdT l).at_
def zaZ (l:List Tk):PR Va:=if zaL l then .ok ⟨txt (hdT l),(hdT l).at_⟩ l.tail else .err 90 (hdT l).at_
def zaR (l:List Tk):PR Int:=if(hdT l).kind =2 then .ok (decV (hdT l).text) l.tail else .err 90 (hdT l).at_
def zaG {α:Type}(one:List Tk->PR α)(join:Int->Int->α->α->α)(signs:List (List UInt8)):Nat->α->List Tk->PR α
 |0,x,l=> .ok x l
 |f+1,x,l=>if isP signs l < 0 then .ok x l else(one l.tail).then λy r=>zaG one join signs f (join (isP signs l) (hdT l).at_ x y) r
def zaU {α:Type}(one:List Tk->PR α)(join:Int->Int->α->α->α)(signs:List (List UInt8))(l:List Tk):PR α:=(one l).then λx r=>zaG one join signs r.length x r
def twoX (first:Int)(k at_:Int)(a b:Ex):Ex:=⟨first+k,noB,0,a.cons (b.cons .nil),at_⟩
def mulS:List (List UInt8):= [[42], [47], [37]]
def addS:List (List UInt8):= [[43], [45]]
def shS:List (List UInt8):= [[60,60], [62,62]]
def zct (sign:List Tk->PR Ex)(l:List Tk):PR Ex:=zaU (zaU (zaU sign (twoX 7) mulS) (twoX 5) addS) (twoX 10) shS l
def zaw:Nat->List Tk->PR Ex
 |n,l=>
  if mayB [45] l then(match n with
   |0=> .err 91 (hdT l).at_
   |n+1=>(zaw n l.tail).then λx r=> .ok ⟨4,noB,0,x.cons .nil,(hdT l).at_⟩ r)
  else if mayB [40] l then(match n with
   |0=> .err 91 (hdT l).at_
   |n+1=>(zct (zaw n) l.tail).then λx r=>(zal [41] r).then λ_ r=> .ok x r)
  else if zaL l then
   if mayB [91] l.tail then(match n with
    |0=> .err 91 (hdT l.tail).at_
    |n+1=>(zct (zaw n) l.tail.tail).then λx r=>(zal [93] r).then λ_ r=> .ok ⟨3,txt (hdT l),0,x.cons .nil,(hdT l).at_⟩ r)
   else .ok ⟨2,txt (hdT l),0,.nil,(hdT l).at_⟩ l.tail
  else(zaR l).then λv r=> .ok ⟨1,noB,v,.nil,(hdT l).at_⟩ r
def zaO (n:Nat)(l:List Tk):PR Ex:=zct (zaw n) l
def za7 (n:Nat)(l:List Tk):PR Ex:=zcu [91] n l λn l=>(zaO n l).then λx r=>(zal [93] r).then λ_ r=> .ok x r
open Go.RowKit Go.Shelf
def TokAt (w:World)(TB:Nat)(all:List Tk):Prop:=∀(i:Nat)(t:Tk),all[i]?=some t->∀k,k < 3->w.cell? ⟨TB,i*3+k,none⟩=(tkC t)[k]?
structure Pcx where
 W0:World
 P:Nat
 TB:Nat
 all:List Tk
structure Pcx.Ok (C:Pcx):Prop where
 env:NameEnv C.W0
 hP:C.W0.heap.size<=C.P
 ne:C.P≠C.TB
 hT:C.W0.heap.size<=C.TB
 toks:∀t∈C.all,zap t.text=(t.kind,t.text.length,0)\/(t.text= []/\t.kind=0)
 len:∀t∈C.all,t.text.length<=4096
 pos:∀t∈C.all,t.at_<=4096
 few:C.all.length<=5000
 ends:∀(i:Nat)(t:Tk),C.all[i]?=some t->i+1=C.all.length->t.text= []/\t.kind=0
def Pcx.T (C:Pcx):Nat->Prop:=λb=>b=C.P
structure PaAt (C:Pcx)(w:World)(l:List Tk)(deep:Nat):Prop where
 base:Below C.W0.heap.size C.W0 w
 tok:TokAt w C.TB C.all
 lt:C.TB < w.heap.size
 ne:l≠ []
 at_:∃j cap:Nat,l=C.all.drop j/\l.length<=cap/\cap<=9223372036854775807/\Bk w C.P 166 #[.slice (some ⟨C.TB,j*3,none⟩) l.length cap,.int .i64 deep]
theorem PaAt.fr {C:Pcx}{w w':World}{l:List Tk}{d:Nat}{T:Nat->Prop}(h:PaAt C w l d)(hf:Fr T w w')(h1:¬T C.P)(h2:¬T C.TB)(h3:∀i,i < C.W0.heap.size->¬T i):PaAt C w' l d:=by
 obtain⟨j,cap,e,hc,hm,hb⟩:=h.at_;refine⟨h.base.trans (hf.to_below h.base.size h3),λi t ht k hk=>?_,aM h.lt hf.size,h.ne,j,cap,e,hc,hm,hb.fr hf h1⟩;exact(hf.cell (p:=⟨C.TB,i*3+k,none⟩) h.lt h2).trans (h.tok i t ht k hk)
theorem PaAt.lts {C:Pcx}{w:World}{l:List Tk}{d:Nat}(h:PaAt C w l d):C.P < w.heap.size/\C.TB < w.heap.size/\C.W0.heap.size<=w.heap.size:=by
 obtain⟨j,cap,e,hc,hm,hb⟩:=h.at_;exact⟨hb.lt,h.lt,h.base.size⟩
theorem PaAt.above {C:Pcx}{w w':World}{l:List Tk}{d B:Nat}(h:PaAt C w l d)(hB:C.P < B/\C.TB < B/\C.W0.heap.size<=B)(hf:Fr (λb=>B<=b) w w'):PaAt C w' l d:=
 h.fr hf (λh=>absurd hB.1 (by omega)) (λh=>absurd hB.2.1 (by omega)) (λi hi h=>absurd hB.2.2 (by omega))
theorem zaH {all:List Tk}{j:Nat}{l:List Tk}(e:l=all.drop j)(Gh:l≠ []):all[j]?=some (hdT l)/\l=hdT l::l.tail/\l.tail=all.drop (j+1)/\l.length=l.tail.length+1:=by
 cases l with
 |nil=>exact absurd rfl Gh
 |cons t r=>
  have h1:all[j]?=some t:=by
   have:=congrArg (λx=>x[0]?) e;simp at this;exact this.symm
  refine⟨h1,rfl,?_,rfl⟩;obtain⟨hi,he⟩:=List.getElem?_eq_some_iff.1 h1;rw[List.drop_eq_getElem_cons hi]at e;exact(List.cons.inj e).2
theorem PaAt.cells {C:Pcx}{w:World}{l:List Tk}{d:Nat}(h:PaAt C w l d):∃j cap m:Nat,m=l.length/\0 < m/\l=C.all.drop j/\m<=cap/\cap<=9223372036854775807/\Bk w C.P 166 #[.slice (some ⟨C.TB,j*3,none⟩) m cap,.int .i64 d]/\
  w.cell? ⟨C.P,0,none⟩=some (.slice (some ⟨C.TB,j*3,none⟩) m cap)/\w.cell? ⟨C.P,1,none⟩=some (.int .i64 d)/\w.frozen? ⟨C.P,0,none⟩=false/\w.frozen? ⟨C.P,1,none⟩=false/\
  w.cell? ⟨C.TB,j*3,none⟩=some (.int .u8 (hdT l).kind)/\w.cell? ⟨C.TB,j*3+1,none⟩=some (.string (txt (hdT l)))/\w.cell? ⟨C.TB,j*3+2,none⟩=some (.int .i64 (hdT l).at_)/\C.P < w.heap.size/\C.TB < w.heap.size:=by
 obtain⟨j,cap,e,hc,hm,hb⟩:=h.at_;have hd:=zaH e h.ne;have ht:=h.tok j _ hd.1;refine⟨j,cap,l.length,rfl,by omega,e,hc,hm,hb,hb.cell 0,hb.cell 1,hb.frozen 0,hb.frozen 1,ht 0 (by omega),ht 1 (by omega),ht 2 (by omega),hb.lt,h.lt⟩
def zaf (e at_:Int):Ending:= .panicked [{v:= .iface 161 (.agg #[.int .i64 e,.int .i64 at_]),recovered:=false}]
def pP (C:Pcx):Value:= .pointer (some ⟨C.P,0,none⟩)
def ErrP (C:Pcx)(e at_:Int)(W:World)(e':Ending)(w':World):Prop:=e'=zaf e at_/\Fr C.T W w'
theorem zcg (C:Pcx)(e:Int)(l:List Tk)(d:Nat)(w:World)(h:PaAt C w l d):Calls Tryz.prog 137 #[pP C,.int .i64 e] w (ErrP C e (hdT l).at_ w):=by
 obtain⟨j,cap,m,GW,Jn,hl,F9,G7,hb,p0,p1,f0,f1,t0,t1,t2,ltP,ltT⟩:=h.cells;have JY:m<=9223372036854775807:=by omega
 have JU:(0:Int) < (m:Int):=by omega
 obtain⟨P,hP⟩:=aF C.P;obtain⟨TB,SS⟩:=aF C.TB;unfold ErrP pP;rw[<-hP]at p0 p1 f0 f1 ltP ⊢;rw[<-SS]at p0 t0 t1 t2 ltT;clear h hb GW hl hP SS;go_enter Tryz.func137,Tryz.ntmps137;go_wp2;exact⟨rfl,rfl,aH⟩
theorem zh0 (C:Pcx)(signs:List (List UInt8))(l:List Tk)(d:Nat)(b o c:Nat)(w:World)(h:PaAt C w l d)(hn:signs.length<=9223372036854775807)
  (hc:∀j,j < signs.length->w.cell? ⟨b,o+j,none⟩=some (.string ⟨(signs.getD j []).toArray⟩)):
  Calls Tryz.prog 200 #[pP C,.slice (some ⟨b,o,none⟩) signs.length c] w λe w'=>e= .returned (.int .i64 (isP signs l))/\w=w':=by
 obtain⟨j,cap,m,GW,Jn,hl,F9,G7,hb,p0,p1,f0,f1,t0,t1,t2,ltP,ltT⟩:=h.cells;have JY:m<=9223372036854775807:=by omega
 have JU:(0:Int) < (m:Int):=by omega
 obtain⟨P,hP⟩:=aF C.P;obtain⟨TB,SS⟩:=aF C.TB;unfold pP;rw[<-hP]at p0 p1 f0 f1 ltP ⊢;rw[<-SS]at p0 t0 t1 t2 ltT;have FD:=Tryz.slices_Index_string b o signs.length c (signs.map λs=>(⟨s.toArray⟩:ByteArray)) (txt (hdT l)) w (by simp) hn (λj hj=>by
  rw[List.length_map]at hj;rw[hc j hj];simp[hj])
 rw[List.take_of_length_le (by simp)]at FD;obtain⟨n,U3⟩:=aF signs.length;rw[<-U3]at FD ⊢;have HI:=aA FD;obtain⟨r,hr⟩:=aF (isP signs l);rw[<-hr];unfold isP at hr;have HR:=aA hr;clear h hb GW hl hP SS FD hr U3 hn hc;by_cases hk:(hdT l).kind =2
 ·have HF:=aA (show r= -1 from by rw[HR.out,if_pos hk]);have e1:((hdT l).kind ==2)=true:=by simpa using hk
  clear hk;go_enter Tryz.func200,Tryz.ntmps200;go_wp2;go_ret;exact⟨by rw[HF.out];rfl,rfl⟩
 ·have hF:=HR.out;rw[if_neg hk]at hF;rw[<-hF]at HI;have e1:((hdT l).kind ==2)=false:=by simpa using hk
  clear hk hF;go_enter Tryz.func200,Tryz.ntmps200;go_wp2_with fail;refine HI.mono ?_;rintro _ w1 ⟨rfl,rfl⟩;go_wp2_with fail;go_ret;exact⟨rfl,rfl⟩
@[go_sem] theorem fieldTk1 (a b c:Value) (W:World):(Instr.field 164 (.agg #[a,b,c]) 1).run Tryz.prog W= .ok b W:=by kernel_rfl
@[go_sem] theorem fieldTk2 (a b c:Value) (W:World):(Instr.field 164 (.agg #[a,b,c]) 2).run Tryz.prog W= .ok c W:=by kernel_rfl
@[go_sem] theorem fieldVa0 (a b:Value) (W:World):(Instr.field 77 (.agg #[a,b]) 0).run Tryz.prog W= .ok a W:=by kernel_rfl
def tkV (t:Tk):Value:= .agg #[.int .u8 t.kind,.string (txt t),.int .i64 t.at_]
theorem PaAt.next {C:Pcx}{w w':World}{l:List Tk}{d d' j cap:Nat}(hk:C.Ok)(h:PaAt C w l d)(e:l=C.all.drop j)(Gh:l.tail≠ [])(hc:l.length<=cap)(hm:cap<=9223372036854775807)(hf:Fr C.T w w')
  (hb:Bk w' C.P 166 #[.slice (some ⟨C.TB,j*3+3,none⟩) (l.length - 1) (cap - 1),.int .i64 d']):PaAt C w' l.tail d':=by
 have hd:=zaH e h.ne;refine⟨h.base.trans (hf.to_below h.base.size λi hi ht=>?_),λi t ht k Qa=>?_,aM h.lt hf.size,Gh,j+1,cap - 1,hd.2.2.1,by omega,by omega,?_⟩
 ·have:=hk.hP;have e:i=C.P:=ht;omega
 ·exact(hf.cell (p:=⟨C.TB,i*3+k,none⟩) h.lt λe=>hk.ne (by have e:C.TB=C.P:=e;exact e.symm)).trans (h.tok i t ht k Qa)
 ·rw[show(j+1)*3=j*3+3 from by omega,show l.tail.length=l.length - 1 from by rw[hd.2.2.2];omega];exact hb
theorem Pcx.Ok.more {C:Pcx}(hk:C.Ok){w:World}{l:List Tk}{d:Nat}(h:PaAt C w l d)(ht:¬((hdT l).text = []/\(hdT l).kind =0)):l.tail≠ []:=by
 obtain⟨j,cap,e,_⟩:=h.at_;have hd:=zaH e h.ne;intro hn;refine ht (hk.ends j _ hd.1 ?_);have h1:=hd.2.2.1;rw[hn]at h1;have h2:(C.all.drop (j+1)).length =0:=by rw[<-h1];rfl
 rw[List.length_drop]at h2;have h3:=(List.getElem?_eq_some_iff.1 hd.1).1;omega
def zd5 (C:Pcx)(l:List Tk)(d:Nat)(W:World)(e:Ending)(w':World):Prop:=e= .returned (tkV (hdT l))/\PaAt C w' l.tail d/\Fr C.T W w'
theorem zbl (C:Pcx)(l:List Tk)(d:Nat)(w:World)(hk:C.Ok)(h:PaAt C w l d)(ht:¬((hdT l).text = []/\(hdT l).kind =0)):Calls Tryz.prog 201 #[pP C] w (zd5 C l d w):=by
 have Jv:=hk.more h ht;obtain⟨j,cap,m,GW,Jn,hl,F9,G7,hb,p0,p1,f0,f1,t0,t1,t2,ltP,ltT⟩:=h.cells;have PO:1 < m:=by
  have:=zaH hl h.ne;have h2:0 < l.tail.length:=List.length_pos_iff.2 Jv;omega
 have JY:m<=9223372036854775807:=by omega
 have JU:(0:Int) < (m:Int):=by omega
 have Qb:(1:Int)<=(m:Int):=by omega
 have qH:¬cap=1:=by omega
 have hF:∀w',Fr C.T w w'->Bk w' C.P 166 #[.slice (some ⟨C.TB,j*3+3,none⟩) (m - 1) (cap - 1),.int .i64 d]->PaAt C w' l.tail d/\Fr C.T w w':=λw' hf hb=>⟨h.next hk hl Jv (by omega) G7 hf (by rw[<-GW];exact hb),hf⟩;obtain⟨P,hP⟩:=aF C.P;obtain⟨TB,SS⟩:=aF C.TB;unfold zd5 pP;have hT:∀b,C.T b↔b=P:=λb=>by rw[hP];exact Iff.rfl
 rw[<-hP]at p0 p1 f0 f1 ltP hb hF ⊢;rw[<-SS]at p0 t0 t1 t2 ltT hF;have HF:=aA hF;have HB:=aA hb;have HT:=aA hT;clear h hb GW hl hP SS hk ht Jv hF hT;go_enter Tryz.func201,Tryz.ntmps201;go_wp2;refine bodyPost_ret (v:=tkV (hdT l)) (by simp[results,Tryz.results201,go_sem,tkV]) rfl ⟨rfl,HF _ (((aH.setCell (Or.inl ((HT _).2 rfl)) _).alloc _).alloc _) ?_⟩;have hb:=HB.set_ 0 (.slice (some ⟨TB,j*3+3,none⟩) (m - 1) (cap - 1));exact Bk.alloc (Bk.alloc (by simpa using hb) _) _
theorem zfJ (C:Pcx)(s:List UInt8)(l:List Tk)(d:Nat)(b:Nat)(w:World)(h:PaAt C w l d)(hc:w.cell? ⟨b,0,none⟩=some (.string ⟨s.toArray⟩)):
  Calls Tryz.prog 200 #[pP C,.slice (some ⟨b,0,none⟩) 1 1] w λe w'=>e= .returned (.int .i64 (isP [s] l))/\w=w':=
 zh0 C [s] l d b 0 1 w h (by simp) (λj hj=>by
  have:j=0:=by simp at hj;omega
  subst this;exact hc)
theorem PaAt.alloc {C:Pcx}{w:World}{l:List Tk}{d:Nat}(h:PaAt C w l d)(o:Obj):PaAt C (w.alloc o) l d:=
 h.fr (T:=λ_=>False) (aH.alloc o) (λh=>h) (λh=>h) (λ_ _ h=>h)
def MayP (C:Pcx)(b:Bool)(l:List Tk)(d:Nat)(W:World)(e:Ending)(w':World):Prop:=e= .returned (.bool b)/\PaAt C w' l d/\Fr C.T W w'
theorem zj5 (C:Pcx)(s:List UInt8)(l:List Tk)(d:Nat)(w:World)(hk:C.Ok)(h:PaAt C w l d)(hs:s≠ [])(hm:mayB s l=true):Calls Tryz.prog 129 #[pP C,.string ⟨s.toArray⟩] w (MayP C true l.tail d w):=by
 have h1:=h.alloc (.cells #[.string ⟨s.toArray⟩] 9);have hi:=zfJ C s l d w.heap.size _ h1 (by simp);have hp:isP [s] l=0:=by simpa[mayB]using hm
 rw[hp]at hi;have hq:=zbl C l d _ hk h1 (λht=>hs ((zgr hm).1.symm.trans ht.1));unfold zd5 tkV at hq;unfold MayP;unfold pP at hi hq ⊢;have HI:=aA hi;have HQ:=aA hq;clear hi hq h1 h hm hp hk;go_enter Tryz.func129,Tryz.ntmps129;go_wp2_with fail;refine HI.mono ?_;rintro _ w1 ⟨rfl,rfl⟩;go_wp2_with fail;refine HQ.mono ?_;rintro _ w1 ⟨rfl,GP,hf⟩;have HP:=aA GP;have HF:=aA hf;clear GP hf;go_wp2_with fail;go_ret;exact⟨rfl,HP.out,(aH.alloc _).trans HF.out⟩
theorem znR (C:Pcx)(s:List UInt8)(l:List Tk)(d:Nat)(w:World)(h:PaAt C w l d)(hm:mayB s l=false):Calls Tryz.prog 129 #[pP C,.string ⟨s.toArray⟩] w (MayP C false l d w):=by
 have h1:=h.alloc (.cells #[.string ⟨s.toArray⟩] 9);have hi:=zfJ C s l d w.heap.size _ h1 (by simp);obtain⟨r,hr⟩:=aF (isP [s] l);rw[<-hr]at hi;have e1:(r==0)=false:=by rw[hr];exact hm
 unfold MayP;unfold pP at hi ⊢;have HI:=aA hi;have H1:=aA h1;clear hi h1 h hm hr;go_enter Tryz.func129,Tryz.ntmps129;go_wp2_with fail;refine HI.mono ?_;rintro _ w1 ⟨rfl,rfl⟩;go_wp2_with fail;go_ret;exact⟨rfl,H1.out,aH.alloc _⟩
def zhk (C:Pcx)(l:List Tk)(d:Nat)(W:World)(e:Ending)(w':World):Prop:=e= .returned (.tuple #[])/\PaAt C w' l d/\Fr C.T W w'
theorem zch (C:Pcx)(s:List UInt8)(l:List Tk)(d b:Nat)(w:World)(hk:C.Ok)(h:PaAt C w l d)(hs:s≠ [])(hm:mayB s l=true)(hc:w.cell? ⟨b,0,none⟩=some (.string ⟨s.toArray⟩)):
  Calls Tryz.prog 135 #[pP C,.slice (some ⟨b,0,none⟩) 1 1] w (zhk C l.tail d w):=by
 have hq:=zj5 C s l d w hk h hs hm;unfold MayP at hq;unfold zhk;unfold pP at hq ⊢;have HQ:=aA hq;clear hq h hm hk;go_enter Tryz.func135,Tryz.ntmps135;go_wp2_with fail;go_loopw [8] (λi wr=>∃k:Nat,k<=1/\i= .int .i64 k/\Hid (k=0->wr=w)/\Hid (k=1->PaAt C wr l.tail d/\Fr C.T w wr)) (λi _=>1 - (intOf i).toNat);case atStart=>exact⟨0,by omega,rfl,λ_=>rfl,λh=>absurd h (by omega)⟩
 case round=>
  obtain⟨k,hk,rfl,h0,h1⟩:=hrel;by_cases GI:k=0
  ·have hw:=h0 GI;subst GI;subst hw;clear h0 h1;go_wp2_with fail;refine HQ.mono ?_;rintro _ w1 ⟨rfl,GP,hf⟩;have HP:=aA GP;have HF:=aA hf;clear GP hf;go_wp2_with fail;go_roundw;case rel=>exact⟨1,by omega,rfl,λh=>absurd h (by omega),λ_=>⟨HP.out,HF.out⟩⟩
   case measure=>simp[intOf]
  ·have Fo:k=1:=by omega
   have hw:=aA (h1 Fo);subst Fo;clear h0 h1 GI hk;go_wp2_with fail;go_end0;exact⟨rfl,hw.out⟩
theorem zd6 (C:Pcx)(s:List UInt8)(l:List Tk)(d b:Nat)(w:World)(h:PaAt C w l d)(hm:mayB s l=false)(hc:w.cell? ⟨b,0,none⟩=some (.string ⟨s.toArray⟩)):
  Calls Tryz.prog 135 #[pP C,.slice (some ⟨b,0,none⟩) 1 1] w (ErrP C 90 (hdT l).at_ w):=by
 have hq:=znR C s l d w h hm;have he:=λW h=>zcg C 90 l d W h;unfold MayP at hq;unfold ErrP zaf at he ⊢;unfold pP at hq he ⊢;have HQ:=aA hq;have HE:=aA he;clear hq he h hm;go_enter Tryz.func135,Tryz.ntmps135;go_wp2_with fail;go_loopw [8] (λi wr=>i= .int .i64 0/\Hid (wr=w)) (λi _=>1 - (intOf i).toNat);case atStart=>exact⟨rfl,rfl⟩
 case round=>
  obtain⟨rfl,hw⟩:=hrel;have hw:=hw.out;subst hw;go_wp2_with fail;refine HQ.mono ?_;rintro _ w1 ⟨rfl,GP,hf⟩;have HF:=aA hf;have HP:=aA GP;clear GP hf;go_wp2_with fail;refine(HE _ HP.out).mono ?_;rintro _ w2 ⟨rfl,He⟩;go_wp2_with fail;exact⟨rfl,rfl,HF.trans He⟩
def ziT (C:Pcx)(b:Bool)(l:List Tk)(d:Nat)(W:World)(e:Ending)(w':World):Prop:=e= .returned (.bool b)/\PaAt C w' l d/\Fr C.T W w'
theorem zcL (C:Pcx)(l:List Tk)(d:Nat)(w:World)(hk:C.Ok)(h:PaAt C w l d):Calls Tryz.prog 202 #[pP C] w (ziT C (zaL l) l d w):=by
 have jA:=λW' (hb:Below w.heap.size w W')=>h.fr (T:=λ_=>False) (Fr.below hb) (λh=>h) (λh=>h) (λ_ _ h=>h);have hlen:(hdT l).text.length <=4096:=by
  obtain⟨j,cap,e,_⟩:=h.at_;exact hk.len _ (List.mem_of_getElem? (zaH e h.ne).1)
 have hn:=zmr (txt (hdT l)) (by show(hdT l).text.toArray.size <=_;simp;omega) w (hk.env.keep h.base);rw[show(txt (hdT l)).data.toList =(hdT l).text from rfl]at hn;obtain⟨r,hr⟩:=aF (zaL l);obtain⟨q,hq⟩:=aF (zbk (hdT l).text );rw[<-hq]at hn;rw[<-hr];unfold zaL at hr;rw[<-hq]at hr;obtain⟨j,cap,m,GW,Jn,hl,F9,G7,hb,p0,p1,f0,f1,t0,t1,t2,ltP,ltT⟩:=h.cells;have JY:m<=9223372036854775807:=by omega
 have JU:(0:Int) < (m:Int):=by omega
 unfold ziT;unfold pP;have HN:=aA hn;have HR:=aA hr;have HP:=aA jA;clear hn hr jA hb hl GW hk hlen hq h;cases KV:((hdT l).kind ==1)
 ·have HF:=aA (show r=false from by rw[HR.out,KV];rfl);go_enter Tryz.func202,Tryz.ntmps202;go_wp2_with fail;go_ret;exact⟨by rw[HF.out];rfl,HP _ (Below.refl _ _),aH⟩
 ·have HF:=aA (show r=q from by rw[HR.out,KV];rfl);go_enter Tryz.func202,Tryz.ntmps202;go_wp2_with fail;refine HN.mono ?_;rintro _ w1 ⟨rfl,Gz⟩;go_wp2_with fail;go_ret;exact⟨by rw[HF.out];rfl,HP _ Gz,Fr.below Gz⟩
def vaV (v:Va):Value:= .agg #[.string v.nm,.int .i64 v.at_]
def RetP (C:Pcx)(v:Value)(l:List Tk)(d:Nat)(W:World)(e:Ending)(w':World):Prop:=e= .returned v/\PaAt C w' l d/\Fr C.T W w'
theorem zdz {l:List Tk}(h:zaL l=true):¬((hdT l).text = []/\(hdT l).kind =0):=λht=>by
 unfold zaL at h;rw[ht.2]at h;simp at h
theorem zh1 (C:Pcx)(l:List Tk)(d:Nat)(w:World)(hk:C.Ok)(h:PaAt C w l d)(hn:zaL l=true):Calls Tryz.prog 131 #[pP C] w (RetP C (vaV ⟨txt (hdT l),(hdT l).at_⟩) l.tail d w):=by
 have hq:=λW hW=>zcL C l d W hk hW;have hp:=λW hW=>zbl C l d W hk hW (zdz hn);rw[hn]at hq;unfold ziT at hq;unfold zd5 tkV at hp;unfold RetP vaV;unfold pP at hq hp ⊢;have HA:=aA (h.alloc (.cells #[.string ⟨#[]⟩,.int .i64 0] 77));have HQ:=aA hq;have Mw:=aA hp;obtain⟨P,hP⟩:=aF C.P;have U5:C.P < w.heap.size:=by obtain⟨j,cap,_,_,_,hb⟩:=h.at_;exact hb.lt
 have ST:=aA U5;have HL:=aA h.lts;clear hq hp hk h hn U5;go_enter Tryz.func131,Tryz.ntmps131;go_wp2_with fail;refine(HQ _ HA.out).mono ?_;rintro _ w1 ⟨rfl,GP,hf⟩;have MH:=aA GP;have Hl:=aA hf;clear GP hf;go_wp2_with fail;refine(Mw _ MH.out).mono ?_;rintro _ w2 ⟨rfl,GP,hf⟩;have Hr:=((Bk.new w 77 #[.string ⟨#[]⟩,.int .i64 0]).fr Hl.out (λe=>by have e:w.heap.size=C.P:=e;have:=ST.out;omega)).fr hf (λe=>by have e:w.heap.size=C.P:=e;have:=ST.out;omega);have Hu:=aA hf;have Nq:=aA GP;have c0:=Hr.cell 0;have c1:=Hr.cell 1;have g0:=Hr.frozen 0;have g1:=Hr.frozen 1;simp only[aD]at c0 c1;have Hk:=Hr.lt;have F4:=aA Hr;clear GP hf Hr;go_wp2_with fail;refine bodyPost_ret (v:= .agg #[.string (txt (hdT l)),.int .i64 (hdT l).at_]) (by simp[results,Tryz.results131,go_sem,c0,c1,Hk]) rfl ⟨rfl,Nq.above HL.out ?_,?_⟩
 ·refine Fr.alloc (Fr.setCell (Fr.setCell aH (Or.inl ?_) _) (Or.inl ?_) _) _<;>exact aL _
 ·exact(((((aH.alloc _).trans Hl.out).trans Hu.out).setCell (Or.inr (aL _)) _).setCell (Or.inr (aL _)) _).alloc _
theorem zoy (C:Pcx)(l:List Tk)(d:Nat)(w:World)(hk:C.Ok)(h:PaAt C w l d)(hn:zaL l=false):Calls Tryz.prog 131 #[pP C] w (ErrP C 90 (hdT l).at_ w):=by
 have hq:=λW hW=>zcL C l d W hk hW;have he:=λW h=>zcg C 90 l d W h;rw[hn]at hq;unfold ziT at hq;unfold ErrP zaf at he ⊢;unfold pP at hq he ⊢;have HA:=aA (h.alloc (.cells #[.string ⟨#[]⟩,.int .i64 0] 77));have HQ:=aA hq;have HE:=aA he;clear hq he hk h hn;go_enter Tryz.func131,Tryz.ntmps131;go_wp2_with fail;refine(HQ _ HA.out).mono ?_;rintro _ w1 ⟨rfl,GP,hf⟩;have MH:=aA GP;have Hl:=aA hf;clear GP hf;go_wp2_with fail;refine(HE _ MH.out).mono ?_;rintro _ w2 ⟨rfl,hf⟩;go_wp2_with fail;exact⟨rfl,rfl,((aH.alloc _).trans Hl.out).trans hf⟩
theorem zj6 (C:Pcx)(l:List Tk)(d:Nat)(w:World)(h:PaAt C w l d)(hn:(hdT l).kind ≠2):Calls Tryz.prog 203 #[pP C] w (ErrP C 90 (hdT l).at_ w):=by
 have he:=λW h=>zcg C 90 l d W h;obtain⟨j,cap,m,GW,Jn,hl,F9,G7,hb,p0,p1,f0,f1,t0,t1,t2,ltP,ltT⟩:=h.cells;have JY:m<=9223372036854775807:=by omega
 have JU:(0:Int) < (m:Int):=by omega
 have e1:((hdT l).kind != 2)=true:=by simpa using hn
 unfold ErrP zaf at he ⊢;unfold pP at he ⊢;have HE:=aA (he _ h);clear he hb hl GW h hn;go_enter Tryz.func203,Tryz.ntmps203;go_wp2_with fail;refine HE.mono ?_;rintro _ w2 ⟨rfl,hf⟩;go_wp2_with fail;exact⟨rfl,rfl,hf⟩
theorem ziU (C:Pcx)(l:List Tk)(d:Nat)(w:World)(hk:C.Ok)(h:PaAt C w l d)(hn:(hdT l).kind =2):Calls Tryz.prog 203 #[pP C] w (RetP C (.int .i64 (decV (hdT l).text)) l.tail d w):=by
 have hp:=zbl C l d w hk h (λht=>by rw[ht.2]at hn;simp at hn);obtain⟨j,cap,m,GW,Jn,hl,F9,G7,hb,p0,p1,f0,f1,t0,t1,t2,ltP,ltT⟩:=h.cells;have Qc:=List.mem_of_getElem? (zaH hl h.ne).1;have LQ:=zgm (t:=(hdT l).text) (n:=(hdT l).text.length) (by
  rcases hk.toks _ Qc with h1|h1
  ·rw[h1,hn]
  ·rw[h1.2]at hn;simp at hn) rfl
 have Hg:=λW=>Tryz.strconv_Atoi_ok (txt (hdT l)) (by have:=hk.len _ Qc;show(hdT l).text.toArray.size <=_;simp;omega) (decV (hdT l).text) (zmn _ LQ.1 LQ.2.1 LQ.2.2) W;have JY:m<=9223372036854775807:=by omega
 have JU:(0:Int) < (m:Int):=by omega
 have e1:((hdT l).kind != 2)=false:=by simpa using hn
 obtain⟨v,hv⟩:=aF (decV (hdT l).text );rw[<-hv]at Hg ⊢;unfold zd5 tkV at hp;unfold RetP;unfold pP at hp ⊢;have Mw:=aA hp;have YO:=aA Hg;have YN:=aA h.lts;clear hp Hg hb hl GW h hn hk Qc LQ hv;go_enter Tryz.func203,Tryz.ntmps203;go_wp2_with fail;refine Mw.mono ?_;rintro _ w1 ⟨rfl,GP,hf⟩;have MH:=aA GP;have Hl:=aA hf;clear GP hf;go_wp2_with fail;refine(YO _).mono ?_;rintro _ w2 ⟨rfl,hw⟩;have G2:Below w1.heap.size w1 w2:=by
  rcases hw with rfl|⟨t,rfl⟩
  ·exact Below.refl _ _
  ·exact zd2 _ _ _
 have Nq:=aA (MH.fr (T:=λ_=>False) (Fr.below G2) (λh=>h) (λh=>h) (λ_ _ h=>h));have Hu:=aA (Hl.trans (Fr.below (T:=C.T) G2));clear hw G2;go_wp2_with fail;go_ret;exact⟨rfl,Nq.out,Hu.out⟩
theorem Pcx.Tp (C:Pcx):C.T C.P:=rfl
theorem PaAt.deep {C:Pcx}(hk:C.Ok){w:World}{l:List Tk}{d d':Nat}(h:PaAt C w l d){v:Int}(hv:v=d'):PaAt C (w.setCell ⟨C.P,1,none⟩ (.int .i64 v)) l d':=by
 obtain⟨j,cap,e,hc,hm,hb⟩:=h.at_;have hf:Fr C.T w (w.setCell ⟨C.P,1,none⟩ (.int .i64 v)):=(Fr.refl C.T w).setCell (p:=⟨C.P,1,none⟩) (Or.inl C.Tp) _;refine⟨h.base.trans (hf.to_below h.base.size λi hi ht=>?_),λi t ht k Qa=>?_,aM h.lt hf.size,h.ne,j,cap,e,hc,hm,?_⟩
 ·have:=hk.hP;have e:i=C.P:=ht;omega
 ·exact(hf.cell (p:=⟨C.TB,i*3+k,none⟩) h.lt λe=>hk.ne (by have e:C.TB=C.P:=e;exact e.symm)).trans (h.tok i t ht k Qa)
 ·have:=hb.set_ 1 (.int .i64 v);rw[hv]at this ⊢;simpa using this
theorem zcv (C:Pcx)(s:List UInt8)(l:List Tk)(d:Nat)(b:Nat)(w:World)(h:PaAt C w l d)(hm:mayB s l=true)(hc:w.cell? ⟨b,0,none⟩=some (.string ⟨s.toArray⟩)):
  Calls Tryz.prog 200 #[pP C,.slice (some ⟨b,0,none⟩) 1 1] w λe w'=>e= .returned (.int .i64 0)/\w=w':=by
 have:=zfJ C s l d b w h hc;rw[show isP [s] l=0 from by simpa[mayB]using hm]at this;exact this
theorem zdA (C:Pcx)(s:List UInt8)(l:List Tk)(d:Nat)(b:Nat)(w:World)(h:PaAt C w l d)(hm:mayB s l=false)(hc:w.cell? ⟨b,0,none⟩=some (.string ⟨s.toArray⟩)):
  Calls Tryz.prog 200 #[pP C,.slice (some ⟨b,0,none⟩) 1 1] w λe w'=>∃r:Int,(r==0)=false/\e= .returned (.int .i64 r)/\w=w':=
 (zfJ C s l d b w h hc).mono λe w' ⟨h1,h2⟩=>⟨_,hm,h1,h2⟩
theorem zgs (C:Pcx)(s:List UInt8)(f:Value)(l:List Tk)(d:Nat)(w:World)(h:PaAt C w l d)(hm:mayB s l=false):
  Calls Tryz.prog 204 #[pP C,.string ⟨s.toArray⟩,f] w (ErrP C 90 (hdT l).at_ w):=by
 have h1:=h.alloc (.cells #[.string ⟨s.toArray⟩] 9);have hi:=zdA C s l d w.heap.size _ h1 hm (by simp);have h2:=h1.alloc (.cells #[.string ⟨s.toArray⟩] 9);have ht:=zd6 C s l d (w.heap.size+1) _ h2 hm (by simp);unfold ErrP zaf at ht ⊢;unfold pP at hi ht ⊢;have HI:=aA hi;have HT:=aA ht;clear hi ht h1 h2 h hm;go_enter Tryz.func204,Tryz.ntmps204;go_wp2_with fail;refine HI.mono ?_;rintro _ w1 ⟨r,hr,rfl,rfl⟩;go_wp2_with fail;refine HT.mono ?_;rintro _ w2 ⟨rfl,hf⟩;go_wp2_with fail;exact⟨rfl,rfl,((aH.alloc _).alloc _).trans hf⟩
theorem za9 (C:Pcx)(s:List UInt8)(f:Value)(l:List Tk)(w:World)(h:PaAt C w l 24)(hm:mayB s l=true):
  Calls Tryz.prog 204 #[pP C,.string ⟨s.toArray⟩,f] w (ErrP C 91 (hdT l).at_ w):=by
 have h1:=h.alloc (.cells #[.string ⟨s.toArray⟩] 9);have hi:=zcv C s l 24 w.heap.size _ h1 hm (by simp);have ht:=zcg C 91 l 24 _ h1;obtain⟨j,cap,m,GW,Jn,hl,F9,G7,hb,p0,p1,f0,f1,t0,t1,t2,ltP,ltT⟩:=h1.cells;unfold ErrP zaf at ht ⊢;unfold pP at hi ht ⊢;have HI:=aA hi;have HT:=aA ht;have P1:=aA p1;clear hi ht h1 h hm hb hl GW p0 p1 f0 f1 t0 t1 t2 ltP ltT;go_enter Tryz.func204,Tryz.ntmps204;go_wp2_with fail;refine HI.mono ?_;rintro _ w1 ⟨rfl,rfl⟩;have p1:=P1.out;go_wp2_with fail;refine HT.mono ?_;rintro _ w2 ⟨rfl,hf⟩;go_wp2_with fail;exact⟨rfl,rfl,(aH.alloc _).trans hf⟩
def zb4 (C:Pcx)(d:Nat)(Q:World->Prop)(e:Ending)(w':World):Prop:=e= .returned (.tuple #[])/\∃w2,Q w2/\w'=w2.setCell ⟨C.P,1,none⟩ (.int .i64 d)
theorem zbE (C:Pcx)(s:List UInt8)(g:Nat)(cap:Array Value)(l:List Tk)(d:Nat)(w:World)(Q:World->Prop)(hk:C.Ok)(h:PaAt C w l d)(hs:s≠ [])(hm:mayB s l=true)(hd:d < 24)(hent:Enters Tryz.prog g)
  (hq:∀w2,Q w2->∃r,PaAt C w2 r (d+1))
  (hc:∀w1,PaAt C w1 l.tail (d+1)->Fr C.T w w1->Calls Tryz.prog g cap w1 λe w2=>e= .returned (.tuple #[])/\Q w2):
  Calls Tryz.prog 204 #[pP C,.string ⟨s.toArray⟩,.func (.func g) #[] cap] w (zb4 C d Q):=by
 have h1:=h.alloc (.cells #[.string ⟨s.toArray⟩] 9);have hi:=zcv C s l d w.heap.size _ h1 hm (by simp);have h2:=h1.alloc (.cells #[.string ⟨s.toArray⟩] 9);have ht:=zch C s l d (w.heap.size+1) _ hk h2 hs hm (by simp);have X4:∀w2,Q w2->w2.cell? ⟨C.P,1,none⟩=some (.int .i64 ((d:Int)+1))/\w2.frozen? ⟨C.P,1,none⟩=false:=λw2 h=>by
  obtain⟨r,hr⟩:=hq w2 h;obtain⟨j,cap,m,GW,Jn,hl,F9,G7,hb,p0,p1,f0,f1,t0,t1,t2,ltP,ltT⟩:=hr.cells;exact⟨by rw[p1];simp,f1⟩
 have LS:∀w1,PaAt C w1 l.tail d->PaAt C (w1.setCell ⟨C.P,1,none⟩ (.int .i64 ((d:Int)+1))) l.tail (d+1):=λw1 h=>h.deep hk (by simp);have GC:∀w1 r,PaAt C w1 r d->w1.cell? ⟨C.P,1,none⟩=some (.int .i64 d)/\w1.frozen? ⟨C.P,1,none⟩=false:=λw1 r h=>by
  obtain⟨j,cap,m,GW,Jn,hl,F9,G7,hb,p0,p1,f0,f1,t0,t1,t2,ltP,ltT⟩:=h.cells;exact⟨p1,f1⟩
 have q1:=GC _ _ h1;have KW:((d:Int)==24)=false:=by simp;omega
 unfold zhk at ht;unfold zb4;unfold pP at hi ht ⊢;have HI:=aA hi;have HT:=aA ht;have HQ:=aA X4;have YP:=aA LS;have JB:=aA GC;have HC:=aA hc;have Q1:=aA q1;unfold Enters at hent;clear hi ht h1 h2 h hm X4 LS GC hc hq q1 hk;go_enter Tryz.func204,Tryz.ntmps204;go_wp2_with fail;refine HI.mono ?_;rintro _ w1 ⟨rfl,rfl⟩;obtain⟨p1,_⟩:=Q1.out;go_wp2_with fail;refine HT.mono ?_;rintro _ w2 ⟨rfl,GP,hf⟩;obtain⟨p2,g2⟩:=JB _ _ GP;have Nq:=aA GP;have Hu:=aA (((Fr.refl C.T w).alloc (.cells #[.string ⟨s.toArray⟩] 9)).alloc (.cells #[.string ⟨s.toArray⟩] 9) |>.trans hf);clear GP hf p1;go_wp2_with fail;try simp only[Array.empty_append,Array.append_empty]
 refine(HC _ (YP _ Nq.out) (Hu.setCell (p:=⟨C.P,1,none⟩) (Or.inl C.Tp) _)).mono ?_;rintro _ w3 ⟨rfl,hq⟩;obtain⟨p3,g3⟩:=HQ _ hq;have qI:=aA hq;clear p2 g2 hq;go_wp2_with fail;go_end0;exact⟨rfl,w3,qI.out,rfl⟩
theorem zbn (C:Pcx)(s:List UInt8)(g:Nat)(cap:Array Value)(l:List Tk)(d:Nat)(w:World)(e a:Int)(Q:World->Prop)(hk:C.Ok)(h:PaAt C w l d)(hs:s≠ [])(hm:mayB s l=true)(hd:d < 24)(hent:Enters Tryz.prog g)
  (hc:∀w1,PaAt C w1 l.tail (d+1)->Fr C.T w w1->Calls Tryz.prog g cap w1 λe' w2=>e'=zaf e a/\Q w2):
  Calls Tryz.prog 204 #[pP C,.string ⟨s.toArray⟩,.func (.func g) #[] cap] w λe' w'=>e'=zaf e a/\Q w':=by
 have h1:=h.alloc (.cells #[.string ⟨s.toArray⟩] 9);have hi:=zcv C s l d w.heap.size _ h1 hm (by simp);have h2:=h1.alloc (.cells #[.string ⟨s.toArray⟩] 9);have ht:=zch C s l d (w.heap.size+1) _ hk h2 hs hm (by simp);have LS:∀w1,PaAt C w1 l.tail d->PaAt C (w1.setCell ⟨C.P,1,none⟩ (.int .i64 ((d:Int)+1))) l.tail (d+1):=λw1 h=>h.deep hk (by simp);have GC:∀w1 r,PaAt C w1 r d->w1.cell? ⟨C.P,1,none⟩=some (.int .i64 d)/\w1.frozen? ⟨C.P,1,none⟩=false:=λw1 r h=>by
  obtain⟨j,cap,m,GW,Jn,hl,F9,G7,hb,p0,p1,f0,f1,t0,t1,t2,ltP,ltT⟩:=h.cells;exact⟨p1,f1⟩
 have q1:=GC _ _ h1;have KW:((d:Int)==24)=false:=by simp;omega
 unfold zhk at ht;unfold zaf at hc ⊢;unfold pP at hi ht ⊢;have HI:=aA hi;have HT:=aA ht;have YP:=aA LS;have JB:=aA GC;have HC:=aA hc;have Q1:=aA q1;unfold Enters at hent;clear hi ht h1 h2 h hm LS GC hc q1 hk;go_enter Tryz.func204,Tryz.ntmps204;go_wp2_with fail;refine HI.mono ?_;rintro _ w1 ⟨rfl,rfl⟩;obtain⟨p1,_⟩:=Q1.out;go_wp2_with fail;refine HT.mono ?_;rintro _ w2 ⟨rfl,GP,hf⟩;obtain⟨p2,g2⟩:=JB _ _ GP;have Nq:=aA GP;have Hu:=aA (((Fr.refl C.T w).alloc (.cells #[.string ⟨s.toArray⟩] 9)).alloc (.cells #[.string ⟨s.toArray⟩] 9) |>.trans hf);clear GP hf p1;go_wp2_with fail;try simp only[Array.empty_append,Array.append_empty]
 refine(HC _ (YP _ Nq.out) (Hu.setCell (p:=⟨C.P,1,none⟩) (Or.inl C.Tp) _)).mono ?_;rintro _ w3 ⟨rfl,hq⟩;go_wp2_with fail;exact⟨rfl,rfl,hq⟩
def ExVS (w:World)(S:Nat->Prop)(v:Value)(x:Ex):Prop:=
 in8 x.k/\in64 x.n/\in64 x.at_/\∃A c,v=exV x.k x.nm x.n A x.args.len c x.at_/\SlR (ExR w S False x.args) x.args.len 64 A c
def ExV (w:World)(L:Nat)(v:Value)(x:Ex):Prop:=ExVS w (New L w) v x
theorem ExVS.keep {w w':World}{S S':Nat->Prop}{v:Value}{x:Ex}(h:ExVS w S v x)(hf:SameS S w w')(hs:∀b,S b->S' b):ExVS w' S' v x:=by
 obtain⟨h1,h2,h3,A,c,e,hh⟩:=h;exact⟨h1,h2,h3,A,c,e,hh.imp λ_ _ hx=>ExR.more hs (ExR.keep hf hx)⟩
theorem ExVS.fr {w w':World}{S S' T:Nat->Prop}{v:Value}{x:Ex}(h:ExVS w S v x)(hf:Fr T w w')(ht:∀b,S b->b < w.heap.size/\¬T b)(hs:∀b,S b->S' b):ExVS w' S' v x:=h.keep (hf.same ht) hs
theorem ExV.fr {w w':World}{L:Nat}{T:Nat->Prop}{v:Value}{x:Ex}(h:ExV w L v x)(hf:Fr T w w')(ht:∀b,L<=b->b < w.heap.size->¬T b):ExV w' L v x:=
 ExVS.fr h hf (λb hb=>⟨hb.2,ht b hb.1 hb.2⟩) λb hb=>⟨hb.1,aM hb.2 hf.size⟩
theorem ExV.low {w:World}{L L':Nat}{v:Value}{x:Ex}(h:ExV w L v x)(hl:L'<=L):ExV w L' v x:=
 ExVS.keep h (SameS.refl _ _) λb hb=>⟨aK hl hb.1,hb.2⟩
theorem zj7 {w:World}{S:Nat->Prop}{g:Nat}{t:TypeId}{x y:Ex}{A A':Option Addr}{c c':Nat}(hb:Bk w g t #[.int .u8 x.k,.string x.nm,.int .i64 x.n,.slice A x.args.len c,.int .i64 x.at_,.int .u8 y.k,.string y.nm,.int .i64 y.n,.slice A' y.args.len c',.int .i64 y.at_])(hg:S g)
  (h1:in8 x.k/\in64 x.n/\in64 x.at_) (h2:in8 y.k/\in64 y.n/\in64 y.at_) (hx:SlR (ExR w S False x.args) x.args.len 64 A c) (hy:SlR (ExR w S False y.args) y.args.len 64 A' c'):ExR w S False (x.cons (y.cons .nil)) g 0:=
 ⟨⟨hg,λh=>absurd h id,h1.1,h1.2.1,h1.2.2,hb.cell 0,hb.cell 1,hb.cell 2,hb.cell 4⟩,⟨A,c,hb.cell 3,hx⟩,
  ⟨hg,λh=>absurd h id,h2.1,h2.2.1,h2.2.2,hb.cell 5,hb.cell 6,hb.cell 7,hb.cell 9⟩,⟨A',c',hb.cell 8,hy⟩,trivial⟩
theorem zj8 {w:World}{S:Nat->Prop}{g:Nat}{t:TypeId}{x:Ex}{A:Option Addr}{c:Nat}(hb:Bk w g t #[.int .u8 x.k,.string x.nm,.int .i64 x.n,.slice A x.args.len c,.int .i64 x.at_])(hg:S g)
  (h1:in8 x.k/\in64 x.n/\in64 x.at_) (hx:SlR (ExR w S False x.args) x.args.len 64 A c):ExR w S False (x.cons .nil) g 0:=
 ⟨⟨hg,λh=>absurd h id,h1.1,h1.2.1,h1.2.2,hb.cell 0,hb.cell 1,hb.cell 2,hb.cell 4⟩,⟨A,c,hb.cell 3,hx⟩,trivial⟩
def TwoP (k at_:Int)(xs:Array Value)(W:World)(e:Ending)(w':World):Prop:=
 ∃g,e= .returned (exV k noB 0 (some ⟨g,0,none⟩) 2 2 at_)/\Bk w' g 175 xs/\W.heap.size<=g/\g < w'.heap.size/\Fr NoT W w'
theorem zhl (f:Int)(w:World):Calls Tryz.prog 287 #[.int .u8 f] w λe w'=>e= .returned (.func (.func 305) #[] #[.pointer (some ⟨w.heap.size,0,none⟩)])/\w'=w.alloc (.cells #[.int .u8 f] 5):=by
 have JI:= @makeF Tryz.prog;go_enter Tryz.func287,Tryz.ntmps287;go_wp2;go_ret;exact⟨rfl,rfl⟩
theorem zms (f k at_:Int)(bx:Nat)(k1 n1 a1 k2 n2 a2:Int)(m1 m2:ByteArray)(A1 A2:Option Addr)(l1 l2 c1 c2:Nat)(w:World)(hbx:bx < w.heap.size)(hf:w.cell? ⟨bx,0,none⟩=some (.int .u8 f))(h0:0<=k)(h1:k<=5)(h2:0<=f)(h3:f<=20):
  Calls Tryz.prog 305 #[.int .i64 k,.int .i64 at_,.agg #[.int .u8 k1,.string m1,.int .i64 n1,.slice A1 l1 c1,.int .i64 a1],.agg #[.int .u8 k2,.string m2,.int .i64 n2,.slice A2 l2 c2,.int .i64 a2],.pointer (some ⟨bx,0,none⟩)] w
   (TwoP (f+k) at_ #[.int .u8 k1,.string m1,.int .i64 n1,.slice A1 l1 c1,.int .i64 a1,.int .u8 k2,.string m2,.int .i64 n2,.slice A2 l2 c2,.int .i64 a2] w):=by
 have e1:IntKind.u8.wrap k=k:=by simp[IntKind.wrap,IntKind.signed,IntKind.bits];omega
 have e2:IntKind.u8.wrap (f+k)=f+k:=by simp[IntKind.wrap,IntKind.signed,IntKind.bits];omega
 have z1:bx < w.heap.size+1:=by omega
 have z2:bx < w.heap.size+1+1:=by omega
 go_enter Tryz.func305,Tryz.ntmps305;go_wp2;refine bodyPost_ret (v:=exV (f+k) noB 0 (some ⟨w.heap.size+1+1+1,0,none⟩) 2 2 at_) (by simp[results,Tryz.results305,go_sem,exV,noB]) rfl ?_;exact⟨_,rfl,Bk.new_at _ _ _ (by simp),by omega,by simp,(((aH.alloc _).alloc _).alloc _).alloc _⟩
def ExP (C:Pcx)(d:Nat)(r:PR Ex)(W:World)(e:Ending)(w':World):Prop:=
 match r with
 | .err c a=>e=zaf c a/\Fr C.T W w'
 | .ok x l=>∃v,e= .returned v/\ExV w' W.heap.size v x/\PaAt C w' l d/\Fr C.T W w'
def Shr {α:Type}(one:List Tk->PR α):Prop:=∀l y r,one l= .ok y r->r.length<=l.length
theorem ze0 {α:Type}{one:List Tk->PR α}{join:Int->Int->α->α->α}{signs:List (List UInt8)}(h:Shr one):∀(f:Nat)(x:α),Shr (zaG one join signs f x)
 |0,x=>λl y r e=>by simp only[zaG,PR.ok.injEq]at e;rw[e.2];exact aL _
 |f+1,x=>λl y r e=>by
  simp only[zaG]at e;split at e
  ·simp only[PR.ok.injEq]at e;rw[e.2];exact aL _
  ·cases ho:one l.tail with
   |err c a=>rw[ho]at e;simp[PR.then]at e
   |ok z q=>
    rw[ho]at e;have h1:=h _ _ _ ho;have h2:=ze0 h f _ _ _ _ e;rw[List.length_tail]at h1;omega
theorem zaA {α:Type}{one:List Tk->PR α}{join:Int->Int->α->α->α}{signs:List (List UInt8)}(h:Shr one):Shr (zaU one join signs):=λl y r e=>by
 unfold zaU at e;cases ho:one l with
 |err c a=>rw[ho]at e;simp[PR.then]at e
 |ok z q=>
  rw[ho]at e;have h1:=h _ _ _ ho;have h2:=ze0 h _ _ _ _ _ e;omega
theorem PR.then_ok {α β:Type}{x:PR α}{f:α->List Tk->PR β}{b:β}{r:List Tk}(h:x.then f= .ok b r):∃a q,x= .ok a q/\f a q= .ok b r:=by
 cases x with
 |ok a q=>exact⟨a,q,rfl,h⟩
 |err e a=>simp[PR.then]at h
theorem zbF {s:List UInt8}{l r:List Tk}{u:Unit}(h:zal s l= .ok u r):r=l.tail:=by
 unfold zal at h;split at h
 ·simp only[PR.ok.injEq]at h;exact h.2.symm
 ·simp at h
theorem zc9 {sign:List Tk->PR Ex}(h:Shr sign):Shr (zct sign):=zaA (zaA (zaA h))
theorem zd7 {l r:List Tk}{v:Int}(h:zaR l= .ok v r):r=l.tail:=by
 unfold zaR at h;split at h
 ·simp only[PR.ok.injEq]at h;exact h.2.symm
 ·simp at h
theorem zbr:∀n,Shr (zaw n)
 |0=>λl y r e=>by
  simp only[zaw]at e;split at e
  ·simp at e
  ·split at e
   ·simp at e
   ·split at e
    ·split at e
     ·simp at e
     ·simp only[PR.ok.injEq]at e;rw[<-e.2,List.length_tail];omega
    ·obtain⟨a,q,h1,h2⟩:=PR.then_ok e;simp only[PR.ok.injEq]at h2;rw[<-h2.2,zd7 h1,List.length_tail];omega
 |n+1=>λl y r e=>by
  have ih:=zbr n;simp only[zaw]at e;split at e
  ·obtain⟨a,q,h1,h2⟩:=PR.then_ok e;simp only[PR.ok.injEq]at h2;have:=ih _ _ _ h1;rw[List.length_tail]at this;rw[<-h2.2];omega
  ·split at e
   ·obtain⟨a,q,h1,h2⟩:=PR.then_ok e;obtain⟨u,q2,h3,h4⟩:=PR.then_ok h2;simp only[PR.ok.injEq]at h4;have:=zc9 ih _ _ _ h1;rw[List.length_tail]at this;rw[<-h4.2,zbF h3,List.length_tail];omega
   ·split at e
    ·split at e
     ·obtain⟨a,q,h1,h2⟩:=PR.then_ok e;obtain⟨u,q2,h3,h4⟩:=PR.then_ok h2;simp only[PR.ok.injEq]at h4;have:=zc9 ih _ _ _ h1;rw[List.length_tail,List.length_tail]at this;rw[<-h4.2,zbF h3,List.length_tail];omega
     ·simp only[PR.ok.injEq]at e;rw[<-e.2,List.length_tail];omega
    ·obtain⟨a,q,h1,h2⟩:=PR.then_ok e;simp only[PR.ok.injEq]at h2;rw[<-h2.2,zd7 h1,List.length_tail];omega
theorem zd8 (n:Nat):Shr (zaO n):=zc9 (zbr n)
