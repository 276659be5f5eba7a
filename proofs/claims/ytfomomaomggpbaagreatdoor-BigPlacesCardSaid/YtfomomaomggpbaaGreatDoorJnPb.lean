/- Things. -/
import Derived.Test.YtfomomaomggpbaaGreatDoorJgFg2
set_option linter.all false
set_option maxHeartbeats 6400000
set_option maxRecDepth 100000
namespace Go.Proofs.YtfomomaomggpbaaGreatDoor
open Go.RowKit Go.Shelf
def OneAtB (cur xm:Array Value)(o m:Nat)(zs:List Value):Prop:=xm.size=cur.size/\zs.length=m/\(∀j u,zs[j]?=some u->xm[o+j]?=some u)/\∀j,(j < o\/o+m<=j)->xm[j]?=cur[j]?
section
variable {α:Type} {oneI one:World->(Nat->Prop)->α->List Value->Prop} {m:Nat} {br:α->α}
def zbC (oneI one:World->(Nat->Prop)->α->List Value->Prop)(m f:Nat)(br:α->α)(x:α):Prop:=
 ∀(w:World)(S:Nat->Prop)(ys:List Value)(g o:Nat)(T:TypeId)(cur:Array Value),(∀b,S b->b < w.heap.size/\b≠g)->oneI w S x ys->Bk w g T cur->(∀j u,ys[j]?=some u->cur[o+j]?=some u)->
  Calls Tryz.prog f #[.pointer (some ⟨g,o,none⟩)] w λe w'=>e= .returned (.tuple #[])/\∃zs xm,Bk w' g T xm/\OneAtB cur xm o m zs/\one w' (λb=>w.heap.size<=b/\b < w'.heap.size) (br x) zs/\Fr (λb=>b=g) w w'
structure BrSt (oneI one:World->(Nat->Prop)->α->List Value->Prop)(m:Nat)(T:TypeId)(br:α->α)(w:World)(S:Nat->Prop)(xs:List α)(g:Nat)(wr:World)(cur:Array Value)(xB xI:List Value)(k:Nat):Prop where
 bk:Bk wr g T cur
 fr:Fr NoT w wr
 c1:∀(j:Nat)(u:Value),xB[j]?=some u->cur[j]?=some u
 l1:xB.length=k*m
 c2:∀(j:Nat)(u:Value),xI[j]?=some u->cur[k*m+j]?=some u
 r1:RowR one wr (λb=>w.heap.size<=b/\b < wr.heap.size/\b≠g) ((xs.take k).map br) xB
 r2:RowR oneI w S (xs.drop k) xI
theorem BrSt.step (ho:OneK one){T:TypeId}{w:World}{S:Nat->Prop}{xs:List α}{g:Nat}{wr:World}{cur:Array Value}{xB ys xI:List Value}{k:Nat}{x:α}{r:List α}(h:BrSt oneI one m T br w S xs g wr cur xB (ys++xI) k)(hd:xs.drop k=x::r)(hm:ys.length=m)(hr:RowR oneI w S r xI)(Mg:w.heap.size<=g)
  {w2:World} {xm:Array Value} {zs:List Value} (Hr:Bk w2 g T xm) (Hp:OneAtB cur xm (k*m) m zs) (hz:one w2 (λb=>wr.heap.size<=b/\b < w2.heap.size) (br x) zs) (hf:Fr (λb=>b=g) wr w2):
  BrSt oneI one m T br w S xs g w2 xm (xB++zs) xI (k+1):=by
 have hg:=h.bk.lt;have Hx:=h.fr.size;have M9:=hf.size;obtain⟨e1,e2,e3,e4⟩:=Hp;have Fw:=h.l1;have Fo:xs[k]?=some x:=by
  have:=congrArg List.head? hd;rw[List.head?_drop]at this;exact this
 refine⟨Hr,Fr.back1 h.fr (hf.mono λb _ (e:b=g)=>(by omega:w.heap.size<=b)) (aL _),λj u hj=>?_,by rw[List.length_append,Fw,e2,Nat.succ_mul],λj u hj=>?_,?_,?_⟩
 ·by_cases Hk:j < xB.length
  ·rw[List.getElem?_append_left Hk]at hj;rw[e4 j (.inl (by omega))];exact h.c1 j u hj
  ·rw[List.getElem?_append_right (by omega),Fw]at hj;have:=e3 _ u hj;rw[show k*m+(j - k*m)=j from by omega]at this;exact this
 ·rw[Nat.succ_mul,e4 _ (.inr (by omega)),Nat.add_assoc];refine h.c2 (m+j) u ?_;rw[List.getElem?_append_right (by omega),hm,show m+j - m=j from by omega];exact hj
 ·rw[List.take_add_one,Fo,Option.toList_some,List.map_append];exact RowR.snoc (ho _ _ _ _ _ _ (SameS.refl _ _) (λb hb=>⟨by have:=hb.1;omega,hb.2,by have:=hb.1;omega⟩) hz) (RowR.imp ho (hf.same λb hb=>⟨hb.2.1,hb.2.2⟩) (λb hb=>⟨hb.1,by have:=hb.2.1;omega,hb.2.2⟩) h.r1)
 ·have:xs.drop (k+1)=r:=by rw[<-List.drop_drop,hd];rfl
  rw[this];exact hr
def BrP (one:World->(Nat->Prop)->α->List Value->Prop)(br:α->α)(xs:List α)(w:World)(e:Ending)(w':World):Prop:=
 ∃A' c',e= .returned (.slice A' xs.length c')/\xs.length<=c'/\c'<=9223372036854775807/\Fr NoT w w'/\(0 < xs.length->∃g zs,A'=some ⟨g,0,none⟩/\(New w.heap.size w' g/\Thaw w' g)/\RowR one w' (New w.heap.size w') (xs.map br) zs/\∀j u,zs[j]?=some u->w'.cell? ⟨g,j,none⟩=some u)
theorem BrSt.done (ho:OneK one){T:TypeId}{w:World}{S:Nat->Prop}{xs:List α}{g:Nat}{wr:World}{cur:Array Value}{xB xI:List Value}(h:BrSt oneI one m T br w S xs g wr cur xB xI xs.length)(Mg:w.heap.size<=g):
  (New w.heap.size wr g/\Thaw wr g)/\RowR one wr (New w.heap.size wr) (xs.map br) xB/\∀j u,xB[j]?=some u->wr.cell? ⟨g,j,none⟩=some u:=by
 have h1:=h.r1;rw[List.take_length]at h1;exact⟨⟨⟨Mg,h.bk.lt⟩,Thaw.of h.bk⟩,RowR.imp ho (SameS.refl _ _) (λb hb=>⟨hb.1,hb.2.1⟩) h1,λj u hj=>(h.bk.cell j).trans (h.c1 j u hj)⟩
end
def Ex.brz (x:Ex):Ex:=⟨x.k,x.nm,x.n,x.args.bare,0⟩
def Cn.brz (x:Cn):Cn:=⟨x.k,x.args.bare,x.of_.bare,0⟩
def St.brz (x:St):St:=⟨x.k,x.nm,x.args.bare,x.cond.bare,x.body.bare,x.els.bare,0⟩
theorem ziF:∀xs:Exs,za0 (xs.toL.map Ex.brz)=xs.bare
 | .nil =>rfl
 | .cons k nm n args at_ r=>by simp only[Exs.toL,List.map_cons,za0,ziF r,Exs.bare];rfl
theorem ziG:∀xs:Cds,ze3 (xs.toL.map Cn.brz)=xs.bare
 | .nil =>rfl
 | .cons k args of_ at_ r=>by simp only[Cds.toL,List.map_cons,ze3,ziG r,Cds.bare];rfl
theorem zjM (A:Option Addr)(n c:Nat)(cs:List Value)(w:World)(hn:n<=9223372036854775807)(hb:n*128<=140737488355328)(hl:cs.length=n*7)(h1:One1 cs)(hA:A=none->n=0)(hc:∀ad,A=some ad->∀j u,cs[j]?=some u->w.cell? (ad.add j)=some u):
  Calls Tryz.prog 66 #[.slice A n c] w (zfv w.heap.size 51 7 n cs w):=by
 obtain⟨i0,hi,Fg,Hw,G5⟩:=info_parts zkp;have HI:=aA (aG hi (aG Fg (aG Hw G5)));have HH:=aA (aG hb (aG hl (aG h1 (aG hA hc))));clear hb hl h1 hA hc hi Fg Hw G5;cases A with
 |none=>
  have GB:∀W,(binOp .eql 25 (.slice none n c) (.slice none 0 0)).run Tryz.prog W= .ok (.bool true) W:=λW=>Lib.run_eql_slice_nil_nil W _ _ Tryz.underlying25;go_enter Tryz.func66,Tryz.ntmps66;go_wp2_with fail;go_ret;have h0:=HH.2.2.2.1 trivial;subst h0;have hl:=HH.2.1;have e0:cs= []:=List.length_eq_zero_iff.1 (by omega);subst e0;exact⟨_,rfl,World.ownsRow_nil _ _ _ _,aH,none,0,rfl⟩
 |some ad=>
  have GB:∀W,(binOp .eql 25 (.slice (some ad) n c) (.slice none 0 0)).run Tryz.prog W= .ok (.bool false) W:=λW=>Lib.run_eql_slice_some_nil W _ _ _ Tryz.underlying25;go_enter Tryz.func66,Tryz.ntmps66;obtain⟨w1,Hc⟩:=aF (w.alloc (.cells #[] 51));have Hd:Fr NoT w w1:=by rw[Hc];exact aH.alloc _
  have FK:w1.ownsRow w.heap.size 51 7 (.slice (some ⟨w.heap.size,0,none⟩) 0 0) 0 []:=by
   rw[Hc];exact World.ownsRow_lit w #[] 0 (aL _) (by decide) rfl
  have Gx:∀j u,cs[j]?=some u->w1.cell? (ad.add j)=some u:=λj u hj=>by
   have h:=HH.2.2.2.2 ad rfl j u hj;rw[<-h];have Hk:(ad.add j).block < w.heap.size:=zcj h;exact Hd.cell Hk id
  have Hl:=aA Hd;have KH:=aA FK;have JQ:=aA Gx;have Ge:=aA Hc;have hz:w.heap.size<=w1.heap.size:=Hd.size;have FW:0+n<=maxLen:=by unfold maxLen;omega
  have JT:(0+n)*128<=140737488355328:=by rw[Nat.zero_add];exact HH.1
  clear Hd FK Gx Hc;go_wp2_with (at_builtin;rw[<-Ge.out];refine wpList_append_own _ rfl _ _ 25 rfl w.heap.size 51 i0 (.agg zeroSt) 7 128 Tryz.underlying25 HI.1 HI.2.1 HI.2.2.1 HI.2.2.2 rfl (by decide) (.slice (some ⟨w.heap.size,0,none⟩) 0 0) 0 [] rfl KH.out ad n c cs rfl HH.2.1 JQ.out HH.2.2.1 FW JT hz ?_);intro v' w' Ha hg _;have HO:=aA Ha;have HG:=aA hg;clear Ha hg;go_wp2_with fail;go_ret;refine⟨_,rfl,HO.out,Hl.back1 (Fr.grown HG.out λg e _=>by simp[Value.ownBlock]at e;omega) (aL _),?_⟩;rcases HO.2 with⟨e1,e2⟩|⟨g,cap,cur,e1,_⟩
  ·exact⟨none,0,by rw[e1,e2];rfl⟩
  ·exact⟨_,cap,e1⟩
theorem zjN (A:Option Addr)(n c:Nat)(cs:List Value)(w:World)(hn:n<=9223372036854775807)(hb:n*72<=140737488355328)(hl:cs.length=n*4)(h1:One1 cs)(hA:A=none->n=0)(hc:∀ad,A=some ad->∀j u,cs[j]?=some u->w.cell? (ad.add j)=some u):
  Calls Tryz.prog 71 #[.slice A n c] w (zfv w.heap.size 63 4 n cs w):=by
 obtain⟨i0,hi,Fg,Hw,G5⟩:=info_parts znS;have HI:=aA (aG hi (aG Fg (aG Hw G5)));have HH:=aA (aG hb (aG hl (aG h1 (aG hA hc))));clear hb hl h1 hA hc hi Fg Hw G5;cases A with
 |none=>
  have GB:∀W,(binOp .eql 24 (.slice none n c) (.slice none 0 0)).run Tryz.prog W= .ok (.bool true) W:=λW=>Lib.run_eql_slice_nil_nil W _ _ Tryz.underlying24;go_enter Tryz.func71,Tryz.ntmps71;go_wp2_with fail;go_ret;have h0:=HH.2.2.2.1 trivial;subst h0;have hl:=HH.2.1;have e0:cs= []:=List.length_eq_zero_iff.1 (by omega);subst e0;exact⟨_,rfl,World.ownsRow_nil _ _ _ _,aH,none,0,rfl⟩
 |some ad=>
  have GB:∀W,(binOp .eql 24 (.slice (some ad) n c) (.slice none 0 0)).run Tryz.prog W= .ok (.bool false) W:=λW=>Lib.run_eql_slice_some_nil W _ _ _ Tryz.underlying24;go_enter Tryz.func71,Tryz.ntmps71;obtain⟨w1,Hc⟩:=aF (w.alloc (.cells #[] 63));have Hd:Fr NoT w w1:=by rw[Hc];exact aH.alloc _
  have FK:w1.ownsRow w.heap.size 63 4 (.slice (some ⟨w.heap.size,0,none⟩) 0 0) 0 []:=by
   rw[Hc];exact World.ownsRow_lit w #[] 0 (aL _) (by decide) rfl
  have Gx:∀j u,cs[j]?=some u->w1.cell? (ad.add j)=some u:=λj u hj=>by
   have h:=HH.2.2.2.2 ad rfl j u hj;rw[<-h];have Hk:(ad.add j).block < w.heap.size:=zcj h;exact Hd.cell Hk id
  have Hl:=aA Hd;have KH:=aA FK;have JQ:=aA Gx;have Ge:=aA Hc;have hz:w.heap.size<=w1.heap.size:=Hd.size;have FW:0+n<=maxLen:=by unfold maxLen;omega
  have JT:(0+n)*72<=140737488355328:=by rw[Nat.zero_add];exact HH.1
  clear Hd FK Gx Hc;go_wp2_with (at_builtin;rw[<-Ge.out];refine wpList_append_own _ rfl _ _ 24 rfl w.heap.size 63 i0 (.agg #[.string ⟨#[]⟩,.slice none 0 0,.slice none 0 0,.int .i64 0]) 4 72 Tryz.underlying24 HI.1 HI.2.1 HI.2.2.1 HI.2.2.2 rfl (by decide) (.slice (some ⟨w.heap.size,0,none⟩) 0 0) 0 [] rfl KH.out ad n c cs rfl HH.2.1 JQ.out HH.2.2.1 FW JT hz ?_);intro v' w' Ha hg _;have HO:=aA Ha;have HG:=aA hg;clear Ha hg;go_wp2_with fail;go_ret;refine⟨_,rfl,HO.out,Hl.back1 (Fr.grown HG.out λg e _=>by simp[Value.ownBlock]at e;omega) (aL _),?_⟩;rcases HO.2 with⟨e1,e2⟩|⟨g,cap,cur,e1,_⟩
  ·exact⟨none,0,by rw[e1,e2];rfl⟩
  ·exact⟨_,cap,e1⟩
theorem znI {Z:Prop}{w:World}{S:Nat->Prop}{x:Ex}{ys:List Value}(h:zdd Z w S x ys):ys.length=5:=by obtain⟨A,c,rfl,_⟩:=h;rfl
theorem znJ {Z:Prop}{w:World}{S:Nat->Prop}{x:Cn}{ys:List Value}(h:zde Z w S x ys):ys.length=4:=by obtain⟨A,c,B,e,rfl,_⟩:=h;rfl
theorem znK {Z:Prop}{w:World}{S:Nat->Prop}{x:St}{ys:List Value}(h:zdf Z w S x ys):ys.length=7:=by obtain⟨A2,c2,A3,c3,A4,c4,A5,c5,rfl,_⟩:=h;rfl
theorem znL {w:World}{S:Nat->Prop}{x:Va}{ys:List Value}(h:oneV w S x ys):ys.length=2:=by obtain⟨rfl,_⟩:=h;rfl
theorem znM {w:World}{S:Nat->Prop}{x:Arr}{ys:List Value}(h:oneA w S x ys):ys.length=3:=by obtain⟨rfl,_⟩:=h;rfl
theorem znN {Z:Prop}{w:World}{S:Nat->Prop}{x:Prc}{ys:List Value}(h:zdK Z w S x ys):ys.length=4:=by obtain⟨A,c,B,e,rfl,_⟩:=h;rfl
theorem zqo (xs:List Ex)(Hb:∀x∈xs,zbC (zdd False) oneX 5 68 Ex.brz x)(w:World)(S:Nat->Prop)(A:Option Addr)(c:Nat)(cs:List Value)(hS:∀b,S b->b < w.heap.size)(hl:xs.length<=9223372036854775807)(hb:xs.length*64<=140737488355328)(GC:cs.length=xs.length*5)(Hi:RowR (zdd False) w S xs cs)(Hp:One1 cs)(GB:A=none->xs.length=0)(Gp:∀ad,A=some ad->∀j u,cs[j]?=some u->w.cell? (ad.add j)=some u):
  Calls Tryz.prog 67 #[.slice A xs.length c,.func (.func 68) #[] #[]] w (BrP oneX Ex.brz xs w):=by
 have JB:=aA (zjy A xs.length c cs w hl hb GC Hp GB Gp);have HA:=aA Hb;have HS:=aA hS;have FP:=aA (aG GC Hi);have P4:Enters Tryz.prog 68:=enters_of Tryz.func68 (by kernel_rfl) rfl;unfold Enters at P4;obtain⟨m,hm⟩:=aF xs.length;rw[<-hm]at hl JB ⊢;have HM:=aA hm;clear Hb hS hm hb GC Hi Hp GB Gp;go_enter Tryz.func67,Tryz.ntmps67;go_wp2_with fail;refine JB.mono ?_;rintro _ w1 ⟨v,rfl,Ha,Hd,A1,c1,rfl⟩;by_cases h0:m=0
 ·subst h0;have Hl:=aA Hd;have Fz:=aA (zdg Ha);clear Ha Hd;go_wp2_with fail;go_loopw [10] (λi wr=>wr=w1/\i= .int .i64 0) (λ_ _=>0);case atStart=>exact⟨rfl,rfl⟩
  case round=>
   obtain⟨rfl,rfl⟩:=hrel;go_wp2_with fail;go_ret;exact⟨A1,c1,by rw[<-HM.out];rfl,by rw[<-HM.out];exact Nat.zero_le _,Fz.out,Hl.out,λh=>absurd h (by rw[<-HM.out];exact Nat.lt_irrefl 0)⟩
 ·obtain⟨g,cap,pad,e,Mg,GY,F9,G7,Hr⟩:=zbG Ha (Nat.pos_of_ne_zero h0);obtain⟨rfl,rfl⟩:A1=some ⟨g,0,none⟩/\c1=cap:=by
   injection e with e1 e2 e3;exact⟨e1,e3⟩
  have Gb:=aA (show BrSt (zdd False) oneX 5 175 Ex.brz w S xs g w1 (cs++pad).toArray [] cs 0 from⟨Hr,Hd,by simp,by simp,λj u hj=>by
   have:=(List.getElem?_eq_some_iff.1 hj).1;rw[Nat.zero_mul,Nat.zero_add,List.getElem?_toArray,List.getElem?_append_left this];exact hj,rfl,FP.2⟩)
  have HG:=aA (aG Mg (aG F9 G7));clear Ha Hd Hr e GY G7 Mg F9;go_wp2_with fail;go_loopw [10] (λi wr=>∃k:Nat,k<=m/\i= .int .i64 k/\∃(cur:Array Value)(d1 d2:List Value),Hid (BrSt (zdd False) oneX 5 175 Ex.brz w S xs g wr cur d1 d2 k)) (λi _=>m - (intOf i).toNat);case atStart=>exact⟨0,Nat.zero_le _,rfl,_,_,_,Gb⟩
  case round=>
   clear Gb;obtain⟨k,hk,rfl,cur,d1,d2,hb⟩:=hrel;by_cases Hk:k < m
   ·obtain⟨x,r,hd,KW⟩:=zao (show k < xs.length from by rw[<-HM.out];exact Hk);have GT:=hb.r2;rw[hd]at GT;obtain⟨ys,xh,rfl,h1,hr⟩:=GT;have Gj:(k:Int) < (m:Int):=by omega
    have G9:(0:Int)<=(k:Int):=by omega
    have PG:w.heap.size<=g:=HG.1;have K4:=hb.c2;have Nc:ys.length=5:=znI h1;have HC:=aA (HA x (List.mem_of_mem_drop (i:=k) (by rw[hd];simp)) wr S ys g (k*5) 175 cur (λb GO=>⟨aM (HS b GO) hb.fr.size,by have:=HS b GO;omega⟩) (zee _ _ _ _ _ _ (hb.fr.same λb GO=>⟨HS b GO,id⟩) (λ_ h=>h) h1) hb.bk (λj u hj=>K4 j u (by rw[List.getElem?_append_left (List.getElem?_eq_some_iff.1 hj).1];exact hj)));have HD:=aA (aG hd (aG Nc hr));have JS:=hb.bk.lt;clear hd KW hr h1 Nc K4;go_wp2_with fail;refine HC.mono ?_;rintro _ w2 ⟨rfl,zs,xm,Hr,Hp,hz,He⟩;have Lp:=aA (hb.step zee HD.1 HD.2.1 HD.2.2 PG Hr Hp hz He);clear Hr Hp hz He hb JS;go_wp2_with fail;go_roundw;case rel=>exact⟨k+1,by omega,by go_num,_,_,_,Lp⟩
    case measure=>simp[intOf];omega
   ·have Gj:¬(k:Int) < (m:Int):=by omega
    have KY:k=m:=by omega
    subst KY;have Ga:BrSt (zdd False) oneX 5 175 Ex.brz w S xs g wr cur d1 d2 xs.length:=HM.out▸hb.out;have MT:=aA (Ga.done zee HG.1);have HF:=aA hb.fr;clear Ga hb;go_wp2_with fail;go_ret;exact⟨_,_,by rw[<-HM.out];rfl,by rw[<-HM.out];exact HG.2.1,by have:=HG.2.2;unfold maxLen at this;omega,HF.out,λ_=>⟨g,d1,rfl,MT.out⟩⟩
theorem zqp (xs:List Cn)(Hb:∀x∈xs,zbC (zde False) oneC 4 70 Cn.brz x)(w:World)(S:Nat->Prop)(A:Option Addr)(c:Nat)(cs:List Value)(hS:∀b,S b->b < w.heap.size)(hl:xs.length<=9223372036854775807)(hb:xs.length*64<=140737488355328)(GC:cs.length=xs.length*4)(Hi:RowR (zde False) w S xs cs)(Hp:One1 cs)(GB:A=none->xs.length=0)(Gp:∀ad,A=some ad->∀j u,cs[j]?=some u->w.cell? (ad.add j)=some u):
  Calls Tryz.prog 69 #[.slice A xs.length c,.func (.func 70) #[] #[]] w (BrP oneC Cn.brz xs w):=by
 have JB:=aA (zjz A xs.length c cs w hl hb GC Hp GB Gp);have HA:=aA Hb;have HS:=aA hS;have FP:=aA (aG GC Hi);have P4:Enters Tryz.prog 70:=enters_of Tryz.func70 (by kernel_rfl) rfl;unfold Enters at P4;obtain⟨m,hm⟩:=aF xs.length;rw[<-hm]at hl JB ⊢;have HM:=aA hm;clear Hb hS hm hb GC Hi Hp GB Gp;go_enter Tryz.func69,Tryz.ntmps69;go_wp2_with fail;refine JB.mono ?_;rintro _ w1 ⟨v,rfl,Ha,Hd,A1,c1,rfl⟩;by_cases h0:m=0
 ·subst h0;have Hl:=aA Hd;have Fz:=aA (zdg Ha);clear Ha Hd;go_wp2_with fail;go_loopw [10] (λi wr=>wr=w1/\i= .int .i64 0) (λ_ _=>0);case atStart=>exact⟨rfl,rfl⟩
  case round=>
   obtain⟨rfl,rfl⟩:=hrel;go_wp2_with fail;go_ret;exact⟨A1,c1,by rw[<-HM.out];rfl,by rw[<-HM.out];exact Nat.zero_le _,Fz.out,Hl.out,λh=>absurd h (by rw[<-HM.out];exact Nat.lt_irrefl 0)⟩
 ·obtain⟨g,cap,pad,e,Mg,GY,F9,G7,Hr⟩:=zbG Ha (Nat.pos_of_ne_zero h0);obtain⟨rfl,rfl⟩:A1=some ⟨g,0,none⟩/\c1=cap:=by
   injection e with e1 e2 e3;exact⟨e1,e3⟩
  have Gb:=aA (show BrSt (zde False) oneC 4 179 Cn.brz w S xs g w1 (cs++pad).toArray [] cs 0 from⟨Hr,Hd,by simp,by simp,λj u hj=>by
   have:=(List.getElem?_eq_some_iff.1 hj).1;rw[Nat.zero_mul,Nat.zero_add,List.getElem?_toArray,List.getElem?_append_left this];exact hj,rfl,FP.2⟩)
  have HG:=aA (aG Mg (aG F9 G7));clear Ha Hd Hr e GY G7 Mg F9;go_wp2_with fail;go_loopw [10] (λi wr=>∃k:Nat,k<=m/\i= .int .i64 k/\∃(cur:Array Value)(d1 d2:List Value),Hid (BrSt (zde False) oneC 4 179 Cn.brz w S xs g wr cur d1 d2 k)) (λi _=>m - (intOf i).toNat);case atStart=>exact⟨0,Nat.zero_le _,rfl,_,_,_,Gb⟩
  case round=>
   clear Gb;obtain⟨k,hk,rfl,cur,d1,d2,hb⟩:=hrel;by_cases Hk:k < m
   ·obtain⟨x,r,hd,KW⟩:=zao (show k < xs.length from by rw[<-HM.out];exact Hk);have GT:=hb.r2;rw[hd]at GT;obtain⟨ys,xh,rfl,h1,hr⟩:=GT;have Gj:(k:Int) < (m:Int):=by omega
    have G9:(0:Int)<=(k:Int):=by omega
    have PG:w.heap.size<=g:=HG.1;have K4:=hb.c2;have Nc:ys.length=4:=znJ h1;have HC:=aA (HA x (List.mem_of_mem_drop (i:=k) (by rw[hd];simp)) wr S ys g (k*4) 179 cur (λb GO=>⟨aM (HS b GO) hb.fr.size,by have:=HS b GO;omega⟩) (zef _ _ _ _ _ _ (hb.fr.same λb GO=>⟨HS b GO,id⟩) (λ_ h=>h) h1) hb.bk (λj u hj=>K4 j u (by rw[List.getElem?_append_left (List.getElem?_eq_some_iff.1 hj).1];exact hj)));have HD:=aA (aG hd (aG Nc hr));have JS:=hb.bk.lt;clear hd KW hr h1 Nc K4;go_wp2_with fail;refine HC.mono ?_;rintro _ w2 ⟨rfl,zs,xm,Hr,Hp,hz,He⟩;have Lp:=aA (hb.step zef HD.1 HD.2.1 HD.2.2 PG Hr Hp hz He);clear Hr Hp hz He hb JS;go_wp2_with fail;go_roundw;case rel=>exact⟨k+1,by omega,by go_num,_,_,_,Lp⟩
    case measure=>simp[intOf];omega
   ·have Gj:¬(k:Int) < (m:Int):=by omega
    have KY:k=m:=by omega
    subst KY;have Ga:BrSt (zde False) oneC 4 179 Cn.brz w S xs g wr cur d1 d2 xs.length:=HM.out▸hb.out;have MT:=aA (Ga.done zef HG.1);have HF:=aA hb.fr;clear Ga hb;go_wp2_with fail;go_ret;exact⟨_,_,by rw[<-HM.out];rfl,by rw[<-HM.out];exact HG.2.1,by have:=HG.2.2;unfold maxLen at this;omega,HF.out,λ_=>⟨g,d1,rfl,MT.out⟩⟩
theorem zqq (xs:List St)(Hb:∀x∈xs,zbC (zdf False) oneS 7 38 St.brz x)(w:World)(S:Nat->Prop)(A:Option Addr)(c:Nat)(cs:List Value)(hS:∀b,S b->b < w.heap.size)(hl:xs.length<=9223372036854775807)(hb:xs.length*128<=140737488355328)(GC:cs.length=xs.length*7)(Hi:RowR (zdf False) w S xs cs)(Hp:One1 cs)(GB:A=none->xs.length=0)(Gp:∀ad,A=some ad->∀j u,cs[j]?=some u->w.cell? (ad.add j)=some u):
  Calls Tryz.prog 37 #[.slice A xs.length c,.func (.func 38) #[] #[]] w (BrP oneS St.brz xs w):=by
 have JB:=aA (zjM A xs.length c cs w hl hb GC Hp GB Gp);have HA:=aA Hb;have HS:=aA hS;have FP:=aA (aG GC Hi);have P4:Enters Tryz.prog 38:=enters_of Tryz.func38 (by kernel_rfl) rfl;unfold Enters at P4;obtain⟨m,hm⟩:=aF xs.length;rw[<-hm]at hl JB ⊢;have HM:=aA hm;clear Hb hS hm hb GC Hi Hp GB Gp;go_enter Tryz.func37,Tryz.ntmps37;go_wp2_with fail;refine JB.mono ?_;rintro _ w1 ⟨v,rfl,Ha,Hd,A1,c1,rfl⟩;by_cases h0:m=0
 ·subst h0;have Hl:=aA Hd;have Fz:=aA (zdg Ha);clear Ha Hd;go_wp2_with fail;go_loopw [10] (λi wr=>wr=w1/\i= .int .i64 0) (λ_ _=>0);case atStart=>exact⟨rfl,rfl⟩
  case round=>
   obtain⟨rfl,rfl⟩:=hrel;go_wp2_with fail;go_ret;exact⟨A1,c1,by rw[<-HM.out];rfl,by rw[<-HM.out];exact Nat.zero_le _,Fz.out,Hl.out,λh=>absurd h (by rw[<-HM.out];exact Nat.lt_irrefl 0)⟩
 ·obtain⟨g,cap,pad,e,Mg,GY,F9,G7,Hr⟩:=zbG Ha (Nat.pos_of_ne_zero h0);obtain⟨rfl,rfl⟩:A1=some ⟨g,0,none⟩/\c1=cap:=by
   injection e with e1 e2 e3;exact⟨e1,e3⟩
  have Gb:=aA (show BrSt (zdf False) oneS 7 51 St.brz w S xs g w1 (cs++pad).toArray [] cs 0 from⟨Hr,Hd,by simp,by simp,λj u hj=>by
   have:=(List.getElem?_eq_some_iff.1 hj).1;rw[Nat.zero_mul,Nat.zero_add,List.getElem?_toArray,List.getElem?_append_left this];exact hj,rfl,FP.2⟩)
  have HG:=aA (aG Mg (aG F9 G7));clear Ha Hd Hr e GY G7 Mg F9;go_wp2_with fail;go_loopw [10] (λi wr=>∃k:Nat,k<=m/\i= .int .i64 k/\∃(cur:Array Value)(d1 d2:List Value),Hid (BrSt (zdf False) oneS 7 51 St.brz w S xs g wr cur d1 d2 k)) (λi _=>m - (intOf i).toNat);case atStart=>exact⟨0,Nat.zero_le _,rfl,_,_,_,Gb⟩
  case round=>
   clear Gb;obtain⟨k,hk,rfl,cur,d1,d2,hb⟩:=hrel;by_cases Hk:k < m
   ·obtain⟨x,r,hd,KW⟩:=zao (show k < xs.length from by rw[<-HM.out];exact Hk);have GT:=hb.r2;rw[hd]at GT;obtain⟨ys,xh,rfl,h1,hr⟩:=GT;have Gj:(k:Int) < (m:Int):=by omega
    have G9:(0:Int)<=(k:Int):=by omega
    have PG:w.heap.size<=g:=HG.1;have K4:=hb.c2;have Nc:ys.length=7:=znK h1;have HC:=aA (HA x (List.mem_of_mem_drop (i:=k) (by rw[hd];simp)) wr S ys g (k*7) 51 cur (λb GO=>⟨aM (HS b GO) hb.fr.size,by have:=HS b GO;omega⟩) (zeg _ _ _ _ _ _ (hb.fr.same λb GO=>⟨HS b GO,id⟩) (λ_ h=>h) h1) hb.bk (λj u hj=>K4 j u (by rw[List.getElem?_append_left (List.getElem?_eq_some_iff.1 hj).1];exact hj)));have HD:=aA (aG hd (aG Nc hr));have JS:=hb.bk.lt;clear hd KW hr h1 Nc K4;go_wp2_with fail;refine HC.mono ?_;rintro _ w2 ⟨rfl,zs,xm,Hr,Hp,hz,He⟩;have Lp:=aA (hb.step zeg HD.1 HD.2.1 HD.2.2 PG Hr Hp hz He);clear Hr Hp hz He hb JS;go_wp2_with fail;go_roundw;case rel=>exact⟨k+1,by omega,by go_num,_,_,_,Lp⟩
    case measure=>simp[intOf];omega
   ·have Gj:¬(k:Int) < (m:Int):=by omega
    have KY:k=m:=by omega
    subst KY;have Ga:BrSt (zdf False) oneS 7 51 St.brz w S xs g wr cur d1 d2 xs.length:=HM.out▸hb.out;have MT:=aA (Ga.done zeg HG.1);have HF:=aA hb.fr;clear Ga hb;go_wp2_with fail;go_ret;exact⟨_,_,by rw[<-HM.out];rfl,by rw[<-HM.out];exact HG.2.1,by have:=HG.2.2;unfold maxLen at this;omega,HF.out,λ_=>⟨g,d1,rfl,MT.out⟩⟩
theorem zqr (xs:List Va)(Hb:∀x∈xs,zbC oneV oneV 2 34 Va.bare x)(w:World)(S:Nat->Prop)(A:Option Addr)(c:Nat)(cs:List Value)(hS:∀b,S b->b < w.heap.size)(hl:xs.length<=9223372036854775807)(hb:xs.length*24<=140737488355328)(GC:cs.length=xs.length*2)(Hi:RowR oneV w S xs cs)(Hp:One1 cs)(GB:A=none->xs.length=0)(Gp:∀ad,A=some ad->∀j u,cs[j]?=some u->w.cell? (ad.add j)=some u):
  Calls Tryz.prog 33 #[.slice A xs.length c,.func (.func 34) #[] #[]] w (BrP oneV Va.bare xs w):=by
 have JB:=aA (zjA A xs.length c cs w hl hb GC Hp GB Gp);have HA:=aA Hb;have HS:=aA hS;have FP:=aA (aG GC Hi);have P4:Enters Tryz.prog 34:=enters_of Tryz.func34 (by kernel_rfl) rfl;unfold Enters at P4;obtain⟨m,hm⟩:=aF xs.length;rw[<-hm]at hl JB ⊢;have HM:=aA hm;clear Hb hS hm hb GC Hi Hp GB Gp;go_enter Tryz.func33,Tryz.ntmps33;go_wp2_with fail;refine JB.mono ?_;rintro _ w1 ⟨v,rfl,Ha,Hd,A1,c1,rfl⟩;by_cases h0:m=0
 ·subst h0;have Hl:=aA Hd;have Fz:=aA (zdg Ha);clear Ha Hd;go_wp2_with fail;go_loopw [10] (λi wr=>wr=w1/\i= .int .i64 0) (λ_ _=>0);case atStart=>exact⟨rfl,rfl⟩
  case round=>
   obtain⟨rfl,rfl⟩:=hrel;go_wp2_with fail;go_ret;exact⟨A1,c1,by rw[<-HM.out];rfl,by rw[<-HM.out];exact Nat.zero_le _,Fz.out,Hl.out,λh=>absurd h (by rw[<-HM.out];exact Nat.lt_irrefl 0)⟩
 ·obtain⟨g,cap,pad,e,Mg,GY,F9,G7,Hr⟩:=zbG Ha (Nat.pos_of_ne_zero h0);obtain⟨rfl,rfl⟩:A1=some ⟨g,0,none⟩/\c1=cap:=by
   injection e with e1 e2 e3;exact⟨e1,e3⟩
  have Gb:=aA (show BrSt oneV oneV 2 77 Va.bare w S xs g w1 (cs++pad).toArray [] cs 0 from⟨Hr,Hd,by simp,by simp,λj u hj=>by
   have:=(List.getElem?_eq_some_iff.1 hj).1;rw[Nat.zero_mul,Nat.zero_add,List.getElem?_toArray,List.getElem?_append_left this];exact hj,rfl,FP.2⟩)
  have HG:=aA (aG Mg (aG F9 G7));clear Ha Hd Hr e GY G7 Mg F9;go_wp2_with fail;go_loopw [10] (λi wr=>∃k:Nat,k<=m/\i= .int .i64 k/\∃(cur:Array Value)(d1 d2:List Value),Hid (BrSt oneV oneV 2 77 Va.bare w S xs g wr cur d1 d2 k)) (λi _=>m - (intOf i).toNat);case atStart=>exact⟨0,Nat.zero_le _,rfl,_,_,_,Gb⟩
  case round=>
   clear Gb;obtain⟨k,hk,rfl,cur,d1,d2,hb⟩:=hrel;by_cases Hk:k < m
   ·obtain⟨x,r,hd,KW⟩:=zao (show k < xs.length from by rw[<-HM.out];exact Hk);have GT:=hb.r2;rw[hd]at GT;obtain⟨ys,xh,rfl,h1,hr⟩:=GT;have Gj:(k:Int) < (m:Int):=by omega
    have G9:(0:Int)<=(k:Int):=by omega
    have PG:w.heap.size<=g:=HG.1;have K4:=hb.c2;have Nc:ys.length=2:=znL h1;have HC:=aA (HA x (List.mem_of_mem_drop (i:=k) (by rw[hd];simp)) wr S ys g (k*2) 77 cur (λb GO=>⟨aM (HS b GO) hb.fr.size,by have:=HS b GO;omega⟩) (zeh _ _ _ _ _ _ (hb.fr.same λb GO=>⟨HS b GO,id⟩) (λ_ h=>h) h1) hb.bk (λj u hj=>K4 j u (by rw[List.getElem?_append_left (List.getElem?_eq_some_iff.1 hj).1];exact hj)));have HD:=aA (aG hd (aG Nc hr));have JS:=hb.bk.lt;clear hd KW hr h1 Nc K4;go_wp2_with fail;refine HC.mono ?_;rintro _ w2 ⟨rfl,zs,xm,Hr,Hp,hz,He⟩;have Lp:=aA (hb.step zeh HD.1 HD.2.1 HD.2.2 PG Hr Hp hz He);clear Hr Hp hz He hb JS;go_wp2_with fail;go_roundw;case rel=>exact⟨k+1,by omega,by go_num,_,_,_,Lp⟩
    case measure=>simp[intOf];omega
   ·have Gj:¬(k:Int) < (m:Int):=by omega
    have KY:k=m:=by omega
    subst KY;have Ga:BrSt oneV oneV 2 77 Va.bare w S xs g wr cur d1 d2 xs.length:=HM.out▸hb.out;have MT:=aA (Ga.done zeh HG.1);have HF:=aA hb.fr;clear Ga hb;go_wp2_with fail;go_ret;exact⟨_,_,by rw[<-HM.out];rfl,by rw[<-HM.out];exact HG.2.1,by have:=HG.2.2;unfold maxLen at this;omega,HF.out,λ_=>⟨g,d1,rfl,MT.out⟩⟩
theorem zqs (xs:List Arr)(Hb:∀x∈xs,zbC oneA oneA 3 36 Arr.bare x)(w:World)(S:Nat->Prop)(A:Option Addr)(c:Nat)(cs:List Value)(hS:∀b,S b->b < w.heap.size)(hl:xs.length<=9223372036854775807)(hb:xs.length*32<=140737488355328)(GC:cs.length=xs.length*3)(Hi:RowR oneA w S xs cs)(Hp:One1 cs)(GB:A=none->xs.length=0)(Gp:∀ad,A=some ad->∀j u,cs[j]?=some u->w.cell? (ad.add j)=some u):
  Calls Tryz.prog 35 #[.slice A xs.length c,.func (.func 36) #[] #[]] w (BrP oneA Arr.bare xs w):=by
 have JB:=aA (zjB A xs.length c cs w hl hb GC Hp GB Gp);have HA:=aA Hb;have HS:=aA hS;have FP:=aA (aG GC Hi);have P4:Enters Tryz.prog 36:=enters_of Tryz.func36 (by kernel_rfl) rfl;unfold Enters at P4;obtain⟨m,hm⟩:=aF xs.length;rw[<-hm]at hl JB ⊢;have HM:=aA hm;clear Hb hS hm hb GC Hi Hp GB Gp;go_enter Tryz.func35,Tryz.ntmps35;go_wp2_with fail;refine JB.mono ?_;rintro _ w1 ⟨v,rfl,Ha,Hd,A1,c1,rfl⟩;by_cases h0:m=0
 ·subst h0;have Hl:=aA Hd;have Fz:=aA (zdg Ha);clear Ha Hd;go_wp2_with fail;go_loopw [10] (λi wr=>wr=w1/\i= .int .i64 0) (λ_ _=>0);case atStart=>exact⟨rfl,rfl⟩
  case round=>
   obtain⟨rfl,rfl⟩:=hrel;go_wp2_with fail;go_ret;exact⟨A1,c1,by rw[<-HM.out];rfl,by rw[<-HM.out];exact Nat.zero_le _,Fz.out,Hl.out,λh=>absurd h (by rw[<-HM.out];exact Nat.lt_irrefl 0)⟩
 ·obtain⟨g,cap,pad,e,Mg,GY,F9,G7,Hr⟩:=zbG Ha (Nat.pos_of_ne_zero h0);obtain⟨rfl,rfl⟩:A1=some ⟨g,0,none⟩/\c1=cap:=by
   injection e with e1 e2 e3;exact⟨e1,e3⟩
  have Gb:=aA (show BrSt oneA oneA 3 61 Arr.bare w S xs g w1 (cs++pad).toArray [] cs 0 from⟨Hr,Hd,by simp,by simp,λj u hj=>by
   have:=(List.getElem?_eq_some_iff.1 hj).1;rw[Nat.zero_mul,Nat.zero_add,List.getElem?_toArray,List.getElem?_append_left this];exact hj,rfl,FP.2⟩)
  have HG:=aA (aG Mg (aG F9 G7));clear Ha Hd Hr e GY G7 Mg F9;go_wp2_with fail;go_loopw [10] (λi wr=>∃k:Nat,k<=m/\i= .int .i64 k/\∃(cur:Array Value)(d1 d2:List Value),Hid (BrSt oneA oneA 3 61 Arr.bare w S xs g wr cur d1 d2 k)) (λi _=>m - (intOf i).toNat);case atStart=>exact⟨0,Nat.zero_le _,rfl,_,_,_,Gb⟩
  case round=>
   clear Gb;obtain⟨k,hk,rfl,cur,d1,d2,hb⟩:=hrel;by_cases Hk:k < m
   ·obtain⟨x,r,hd,KW⟩:=zao (show k < xs.length from by rw[<-HM.out];exact Hk);have GT:=hb.r2;rw[hd]at GT;obtain⟨ys,xh,rfl,h1,hr⟩:=GT;have Gj:(k:Int) < (m:Int):=by omega
    have G9:(0:Int)<=(k:Int):=by omega
    have PG:w.heap.size<=g:=HG.1;have K4:=hb.c2;have Nc:ys.length=3:=znM h1;have HC:=aA (HA x (List.mem_of_mem_drop (i:=k) (by rw[hd];simp)) wr S ys g (k*3) 61 cur (λb GO=>⟨aM (HS b GO) hb.fr.size,by have:=HS b GO;omega⟩) (zei _ _ _ _ _ _ (hb.fr.same λb GO=>⟨HS b GO,id⟩) (λ_ h=>h) h1) hb.bk (λj u hj=>K4 j u (by rw[List.getElem?_append_left (List.getElem?_eq_some_iff.1 hj).1];exact hj)));have HD:=aA (aG hd (aG Nc hr));have JS:=hb.bk.lt;clear hd KW hr h1 Nc K4;go_wp2_with fail;refine HC.mono ?_;rintro _ w2 ⟨rfl,zs,xm,Hr,Hp,hz,He⟩;have Lp:=aA (hb.step zei HD.1 HD.2.1 HD.2.2 PG Hr Hp hz He);clear Hr Hp hz He hb JS;go_wp2_with fail;go_roundw;case rel=>exact⟨k+1,by omega,by go_num,_,_,_,Lp⟩
    case measure=>simp[intOf];omega
   ·have Gj:¬(k:Int) < (m:Int):=by omega
    have KY:k=m:=by omega
    subst KY;have Ga:BrSt oneA oneA 3 61 Arr.bare w S xs g wr cur d1 d2 xs.length:=HM.out▸hb.out;have MT:=aA (Ga.done zei HG.1);have HF:=aA hb.fr;clear Ga hb;go_wp2_with fail;go_ret;exact⟨_,_,by rw[<-HM.out];rfl,by rw[<-HM.out];exact HG.2.1,by have:=HG.2.2;unfold maxLen at this;omega,HF.out,λ_=>⟨g,d1,rfl,MT.out⟩⟩
theorem zqt (xs:List Prc)(Hb:∀x∈xs,zbC (zdK False) oneP 4 40 Prc.bare x)(w:World)(S:Nat->Prop)(A:Option Addr)(c:Nat)(cs:List Value)(hS:∀b,S b->b < w.heap.size)(hl:xs.length<=9223372036854775807)(hb:xs.length*72<=140737488355328)(GC:cs.length=xs.length*4)(Hi:RowR (zdK False) w S xs cs)(Hp:One1 cs)(GB:A=none->xs.length=0)(Gp:∀ad,A=some ad->∀j u,cs[j]?=some u->w.cell? (ad.add j)=some u):
  Calls Tryz.prog 39 #[.slice A xs.length c,.func (.func 40) #[] #[]] w (BrP oneP Prc.bare xs w):=by
 have JB:=aA (zjN A xs.length c cs w hl hb GC Hp GB Gp);have HA:=aA Hb;have HS:=aA hS;have FP:=aA (aG GC Hi);have P4:Enters Tryz.prog 40:=enters_of Tryz.func40 (by kernel_rfl) rfl;unfold Enters at P4;obtain⟨m,hm⟩:=aF xs.length;rw[<-hm]at hl JB ⊢;have HM:=aA hm;clear Hb hS hm hb GC Hi Hp GB Gp;go_enter Tryz.func39,Tryz.ntmps39;go_wp2_with fail;refine JB.mono ?_;rintro _ w1 ⟨v,rfl,Ha,Hd,A1,c1,rfl⟩;by_cases h0:m=0
 ·subst h0;have Hl:=aA Hd;have Fz:=aA (zdg Ha);clear Ha Hd;go_wp2_with fail;go_loopw [10] (λi wr=>wr=w1/\i= .int .i64 0) (λ_ _=>0);case atStart=>exact⟨rfl,rfl⟩
  case round=>
   obtain⟨rfl,rfl⟩:=hrel;go_wp2_with fail;go_ret;exact⟨A1,c1,by rw[<-HM.out];rfl,by rw[<-HM.out];exact Nat.zero_le _,Fz.out,Hl.out,λh=>absurd h (by rw[<-HM.out];exact Nat.lt_irrefl 0)⟩
 ·obtain⟨g,cap,pad,e,Mg,GY,F9,G7,Hr⟩:=zbG Ha (Nat.pos_of_ne_zero h0);obtain⟨rfl,rfl⟩:A1=some ⟨g,0,none⟩/\c1=cap:=by
   injection e with e1 e2 e3;exact⟨e1,e3⟩
  have Gb:=aA (show BrSt (zdK False) oneP 4 63 Prc.bare w S xs g w1 (cs++pad).toArray [] cs 0 from⟨Hr,Hd,by simp,by simp,λj u hj=>by
   have:=(List.getElem?_eq_some_iff.1 hj).1;rw[Nat.zero_mul,Nat.zero_add,List.getElem?_toArray,List.getElem?_append_left this];exact hj,rfl,FP.2⟩)
  have HG:=aA (aG Mg (aG F9 G7));clear Ha Hd Hr e GY G7 Mg F9;go_wp2_with fail;go_loopw [10] (λi wr=>∃k:Nat,k<=m/\i= .int .i64 k/\∃(cur:Array Value)(d1 d2:List Value),Hid (BrSt (zdK False) oneP 4 63 Prc.bare w S xs g wr cur d1 d2 k)) (λi _=>m - (intOf i).toNat);case atStart=>exact⟨0,Nat.zero_le _,rfl,_,_,_,Gb⟩
  case round=>
   clear Gb;obtain⟨k,hk,rfl,cur,d1,d2,hb⟩:=hrel;by_cases Hk:k < m
   ·obtain⟨x,r,hd,KW⟩:=zao (show k < xs.length from by rw[<-HM.out];exact Hk);have GT:=hb.r2;rw[hd]at GT;obtain⟨ys,xh,rfl,h1,hr⟩:=GT;have Gj:(k:Int) < (m:Int):=by omega
    have G9:(0:Int)<=(k:Int):=by omega
    have PG:w.heap.size<=g:=HG.1;have K4:=hb.c2;have Nc:ys.length=4:=znN h1;have HC:=aA (HA x (List.mem_of_mem_drop (i:=k) (by rw[hd];simp)) wr S ys g (k*4) 63 cur (λb GO=>⟨aM (HS b GO) hb.fr.size,by have:=HS b GO;omega⟩) (zej _ _ _ _ _ _ (hb.fr.same λb GO=>⟨HS b GO,id⟩) (λ_ h=>h) h1) hb.bk (λj u hj=>K4 j u (by rw[List.getElem?_append_left (List.getElem?_eq_some_iff.1 hj).1];exact hj)));have HD:=aA (aG hd (aG Nc hr));have JS:=hb.bk.lt;clear hd KW hr h1 Nc K4;go_wp2_with fail;refine HC.mono ?_;rintro _ w2 ⟨rfl,zs,xm,Hr,Hp,hz,He⟩;have Lp:=aA (hb.step zej HD.1 HD.2.1 HD.2.2 PG Hr Hp hz He);clear Hr Hp hz He hb JS;go_wp2_with fail;go_roundw;case rel=>exact⟨k+1,by omega,by go_num,_,_,_,Lp⟩
    case measure=>simp[intOf];omega
   ·have Gj:¬(k:Int) < (m:Int):=by omega
    have KY:k=m:=by omega
    subst KY;have Ga:BrSt (zdK False) oneP 4 63 Prc.bare w S xs g wr cur d1 d2 xs.length:=HM.out▸hb.out;have MT:=aA (Ga.done zej HG.1);have HF:=aA hb.fr;clear Ga hb;go_wp2_with fail;go_ret;exact⟨_,_,by rw[<-HM.out];rfl,by rw[<-HM.out];exact HG.2.1,by have:=HG.2.2;unfold maxLen at this;omega,HF.out,λ_=>⟨g,d1,rfl,MT.out⟩⟩
open Go.RowKit
def Sts.toL:Sts->List St
 | .nil => []
 | .cons k nm args cond body els at_ r=>⟨k,nm,args,cond,body,els,at_⟩::r.toL
theorem Sts.of_toL:∀xs:Sts,zai xs.toL=xs
 | .nil =>rfl
 | .cons k nm args cond body els at_ r=>by show Sts.cons _ _ _ _ _ _ _ (zai r.toL)=_;rw[Sts.of_toL r]
theorem Sts.toL_len:∀xs:Sts,xs.toL.length=xs.len
 | .nil =>rfl
 | .cons k nm args cond body els at_ r=>by simp[Sts.toL,Sts.len,Sts.toL_len r]
theorem ziH:∀xs:Sts,zai (xs.toL.map St.brz)=xs.bare
 | .nil =>rfl
 | .cons k nm args cond body els at_ r=>by simp only[Sts.toL,List.map_cons,zai,ziH r,Sts.bare];rfl
section
variable {w:World} {S:Nat->Prop} {Z:Prop}
theorem zom:∀ {xs:Sts} {b o:Nat},StR w S Z xs b o->∃cs:List Value,cs.length=xs.len*7/\RowR (zdf False) w S xs.toL cs/\One1 cs/\∀j u,cs[j]?=some u->w.cell? ⟨b,o+j,none⟩=some u
 | .nil,_,_,_=>⟨[],rfl,rfl,by simp[One1],by simp⟩
 | .cons k nm args cond body els at_ rest,b,o,⟨⟨hb,_,r0,r1,h0,h1,h6⟩,⟨A,c,h2,hs⟩,⟨A2,c2,h3,GH⟩,⟨A3,c3,h4,KT⟩,⟨A4,c4,h5,Mt⟩,hr⟩=>by
  obtain⟨cs,hl,Hi,Qu,Gp⟩:=zom hr;refine⟨[.int .u8 k,.string nm,.slice A args.len c,.slice A2 cond.len c2,.slice A3 body.len c3,.slice A4 els.len c4,.int .i64 at_]++cs,by simp[Sts.len,hl];omega,⟨_,cs,rfl,⟨A,c,A2,c2,A3,c3,A4,c4,rfl,r0,r1,hs.imp λ_ _=>ExR.lax,GH.imp λ_ _=>CdR.lax,KT.imp λ_ _=>StR.lax,Mt.imp λ_ _=>StR.lax⟩,Hi⟩,One1.app ?_ Qu,zbo (λj u hj=>?_) Gp⟩
  ·intro u hu;simp only[List.mem_cons,List.not_mem_nil,or_false]at hu;rcases hu with rfl|rfl|rfl|rfl|rfl|rfl|rfl<;>rfl
  ·match j with
   |0=>simpa using hj▸h0
   |1=>simpa using hj▸h1
   |2=>simpa using hj▸h2
   |3=>simpa using hj▸h3
   |4=>simpa using hj▸h4
   |5=>simpa using hj▸h5
   |6=>simpa using hj▸h6
   |j+7=>simp at hj
theorem zon:∀ {xs:List Prc} {b o:Nat},PrR w S Z xs b o->∃cs:List Value,cs.length=xs.length*4/\RowR (zdK False) w S xs cs/\One1 cs/\∀j u,cs[j]?=some u->w.cell? ⟨b,o+j,none⟩=some u
 | [],_,_,_=>⟨[],rfl,rfl,by simp[One1],by simp⟩
 |v::r,b,o,⟨⟨hb,_,r0,h0,h3⟩,⟨A,c,h1,hs⟩,⟨A2,c2,h2,GH⟩,hr⟩=>by
  obtain⟨cs,hl,Hi,Qu,Gp⟩:=zon hr;refine⟨[.string v.nm,.slice A v.params.length c,.slice A2 v.body.len c2,.int .i64 v.at_]++cs,by simp[hl];omega,⟨_,cs,rfl,⟨A,c,A2,c2,rfl,r0,hs.imp λ_ _=>VaR.lax,GH.imp λ_ _=>StR.lax⟩,Hi⟩,One1.app ?_ Qu,zbo (ze4 h0 h1 h2 h3) Gp⟩;intro u hu;simp only[List.mem_cons,List.not_mem_nil,or_false]at hu;rcases hu with rfl|rfl|rfl|rfl<;>rfl
theorem slS {xs:Sts}{A:Option Addr}{c:Nat}(hx:SlR (λb o=>StR w S Z xs b o) xs.len 128 A c):∃cs:List Value,cs.length=xs.len*7/\RowR (zdf False) w S xs.toL cs/\One1 cs/\(A=none->xs.len=0)/\∀ad,A=some ad->∀j u,cs[j]?=some u->w.cell? (ad.add j)=some u:=by
 rcases Nat.eq_zero_or_pos xs.len with h0|h0
 ·cases xs with
  |nil=>exact⟨[],rfl,rfl,by simp[One1],λ_=>rfl,by simp⟩
  |cons=>simp[Sts.len]at h0
 ·obtain⟨b,o,rfl,Hg⟩:=hx.2.2 h0;obtain⟨cs,hl,hr,h1,hc⟩:=zom Hg;refine⟨cs,hl,hr,h1,λh=>by simp at h,λad e j u hj=>?_⟩;cases e;rw[ze5];exact hc j u hj
theorem slP {xs:List Prc}{A:Option Addr}{c:Nat}(hx:SlR (PrR w S Z xs) xs.length 72 A c):∃cs:List Value,cs.length=xs.length*4/\RowR (zdK False) w S xs cs/\One1 cs/\(A=none->xs.length=0)/\∀ad,A=some ad->∀j u,cs[j]?=some u->w.cell? (ad.add j)=some u:=by
 rcases Nat.eq_zero_or_pos xs.length with h0|h0
 ·have:=List.length_eq_zero_iff.1 h0;subst this;exact⟨[],rfl,rfl,by simp[One1],λ_=>rfl,by simp⟩
 ·obtain⟨b,o,rfl,Hg⟩:=hx.2.2 h0;obtain⟨cs,hl,hr,h1,hc⟩:=zon Hg;refine⟨cs,hl,hr,h1,λh=>by simp at h,λad e j u hj=>?_⟩;cases e;rw[ze5];exact hc j u hj
end
theorem OneAtB.refl {cur:Array Value}{o m:Nat}{zs:List Value}(hl:zs.length=m)(hc:∀j u,zs[j]?=some u->cur[o+j]?=some u):OneAtB cur cur o m zs:=⟨rfl,hl,hc,λ_ _=>rfl⟩
theorem OneAtB.set {cur xm:Array Value}{o m:Nat}{zs:List Value}(h:OneAtB cur xm o m zs)(i:Nat)(v:Value)(hi:i < m):OneAtB cur (xm.setIfInBounds (o+i) v) o m (zs.set i v):=by
 obtain⟨h1,h2,h3,h4⟩:=h;have hz:o+i < xm.size:=by
  have L5:i < zs.length:=by omega
  have:=h3 i zs[i] (List.getElem?_eq_getElem L5);exact(Array.getElem?_eq_some_iff.1 this).1
 refine⟨by simp[h1],by simp[h2],λj u hj=>?_,λj hj=>?_⟩
 ·by_cases e:i=j
  ·subst e;rw[Array.getElem?_setIfInBounds_self_of_lt hz];rw[List.getElem?_set_self (by omega)]at hj;exact hj
  ·rw[List.getElem?_set_ne e]at hj;rw[Array.getElem?_setIfInBounds_ne (by omega)];exact h3 j u hj
 ·rw[Array.getElem?_setIfInBounds_ne (by omega)];exact h4 j hj
def BzX (xs:Exs):Prop:=∀(w:World)(S:Nat->Prop)(A:Option Addr)(c:Nat),(∀b,S b->b < w.heap.size)->SlR (λb o=>ExR w S False xs b o) xs.len 64 A c->
 Calls Tryz.prog 67 #[.slice A xs.len c,.func (.func 68) #[] #[]] w λe w'=>∃A' c',e= .returned (.slice A' xs.len c')/\SlR (λb o=>ExR w' (New w.heap.size w') True xs.bare b o) xs.len 64 A' c'/\Fr NoT w w'
theorem zoo (xs:Exs)(Hb:∀x∈xs.toL,zbC (zdd False) oneX 5 68 Ex.brz x):BzX xs:=by
 intro w S A c hS hx;obtain⟨cs,GC,Hi,Hp,GB,Gp⟩:=slX hx;have h:=zqo xs.toL Hb w S A c cs hS (by rw[Exs.toL_len];exact aK hx.1 hx.2.1.1) (by rw[Exs.toL_len];exact hx.2.1.2) (by rw[Exs.toL_len];exact GC) Hi Hp (by rw[Exs.toL_len];exact GB) Gp;rw[Exs.toL_len]at h;refine h.mono ?_;rintro e w' ⟨A',c',rfl,h1,h2,hf,hr⟩;rw[Exs.toL_len]at h1 hr ⊢;refine⟨A',c',rfl,⟨h1,⟨h2,hx.2.1.2⟩,λh0=>?_⟩,hf⟩;obtain⟨g,zs,rfl,hg,Hi,Gp⟩:=hr h0;refine⟨g,0,rfl,?_⟩;rw[<-ziF];exact rowX hg Hi λj u hj=>by rw[Nat.zero_add];exact Gp j u hj
def BzC (xs:Cds):Prop:=∀(w:World)(S:Nat->Prop)(A:Option Addr)(c:Nat),(∀b,S b->b < w.heap.size)->SlR (λb o=>CdR w S False xs b o) xs.len 64 A c->
 Calls Tryz.prog 69 #[.slice A xs.len c,.func (.func 70) #[] #[]] w λe w'=>∃A' c',e= .returned (.slice A' xs.len c')/\SlR (λb o=>CdR w' (New w.heap.size w') True xs.bare b o) xs.len 64 A' c'/\Fr NoT w w'
theorem zop (xs:Cds)(Hb:∀x∈xs.toL,zbC (zde False) oneC 4 70 Cn.brz x):BzC xs:=by
 intro w S A c hS hx;obtain⟨cs,GC,Hi,Hp,GB,Gp⟩:=slC hx;have h:=zqp xs.toL Hb w S A c cs hS (by rw[Cds.toL_len];exact aK hx.1 hx.2.1.1) (by rw[Cds.toL_len];exact hx.2.1.2) (by rw[Cds.toL_len];exact GC) Hi Hp (by rw[Cds.toL_len];exact GB) Gp;rw[Cds.toL_len]at h;refine h.mono ?_;rintro e w' ⟨A',c',rfl,h1,h2,hf,hr⟩;rw[Cds.toL_len]at h1 hr ⊢;refine⟨A',c',rfl,⟨h1,⟨h2,hx.2.1.2⟩,λh0=>?_⟩,hf⟩;obtain⟨g,zs,rfl,hg,Hi,Gp⟩:=hr h0;refine⟨g,0,rfl,?_⟩;rw[<-ziG];exact rowC hg Hi λj u hj=>by rw[Nat.zero_add];exact Gp j u hj
def BzS (xs:Sts):Prop:=∀(w:World)(S:Nat->Prop)(A:Option Addr)(c:Nat),(∀b,S b->b < w.heap.size)->SlR (λb o=>StR w S False xs b o) xs.len 128 A c->
 Calls Tryz.prog 37 #[.slice A xs.len c,.func (.func 38) #[] #[]] w λe w'=>∃A' c',e= .returned (.slice A' xs.len c')/\SlR (λb o=>StR w' (New w.heap.size w') True xs.bare b o) xs.len 128 A' c'/\Fr NoT w w'
theorem zl3 (xs:Sts)(Hb:∀x∈xs.toL,zbC (zdf False) oneS 7 38 St.brz x):BzS xs:=by
 intro w S A c hS hx;obtain⟨cs,GC,Hi,Hp,GB,Gp⟩:=slS hx;have h:=zqq xs.toL Hb w S A c cs hS (by rw[Sts.toL_len];exact aK hx.1 hx.2.1.1) (by rw[Sts.toL_len];exact hx.2.1.2) (by rw[Sts.toL_len];exact GC) Hi Hp (by rw[Sts.toL_len];exact GB) Gp;rw[Sts.toL_len]at h;refine h.mono ?_;rintro e w' ⟨A',c',rfl,h1,h2,hf,hr⟩;rw[Sts.toL_len]at h1 hr ⊢;refine⟨A',c',rfl,⟨h1,⟨h2,hx.2.1.2⟩,λh0=>?_⟩,hf⟩;obtain⟨g,zs,rfl,hg,Hi,Gp⟩:=hr h0;refine⟨g,0,rfl,?_⟩;rw[<-ziH];exact rowS hg Hi λj u hj=>by rw[Nat.zero_add];exact Gp j u hj
def BzV (xs:List Va):Prop:=∀(w:World)(S:Nat->Prop)(A:Option Addr)(c:Nat),(∀b,S b->b < w.heap.size)->SlR (VaR w S False xs) xs.length 24 A c->
 Calls Tryz.prog 33 #[.slice A xs.length c,.func (.func 34) #[] #[]] w λe w'=>∃A' c',e= .returned (.slice A' xs.length c')/\SlR (VaR w' (New w.heap.size w') True (xs.map Va.bare)) xs.length 24 A' c'/\Fr NoT w w'
theorem zqu (xs:List Va)(Hb:∀x∈xs,zbC oneV oneV 2 34 Va.bare x):BzV xs:=by
 intro w S A c hS hx;obtain⟨cs,GC,Hi,Hp,GB,Gp⟩:=slV hx;refine(zqr xs Hb w S A c cs hS (aK hx.1 hx.2.1.1) hx.2.1.2 GC Hi Hp GB Gp).mono ?_;rintro e w' ⟨A',c',rfl,h1,h2,hf,hr⟩;refine⟨A',c',rfl,⟨h1,⟨h2,hx.2.1.2⟩,λh0=>?_⟩,hf⟩;obtain⟨g,zs,rfl,hg,Hi,Gp⟩:=hr h0;exact⟨g,0,rfl,rowV hg Hi λj u hj=>by rw[Nat.zero_add];exact Gp j u hj⟩
def BzA (xs:List Arr):Prop:=∀(w:World)(S:Nat->Prop)(A:Option Addr)(c:Nat),(∀b,S b->b < w.heap.size)->SlR (ArR w S False xs) xs.length 32 A c->
 Calls Tryz.prog 35 #[.slice A xs.length c,.func (.func 36) #[] #[]] w λe w'=>∃A' c',e= .returned (.slice A' xs.length c')/\SlR (ArR w' (New w.heap.size w') True (xs.map Arr.bare)) xs.length 32 A' c'/\Fr NoT w w'
theorem zqv (xs:List Arr)(Hb:∀x∈xs,zbC oneA oneA 3 36 Arr.bare x):BzA xs:=by
 intro w S A c hS hx;obtain⟨cs,GC,Hi,Hp,GB,Gp⟩:=slA hx;refine(zqs xs Hb w S A c cs hS (aK hx.1 hx.2.1.1) hx.2.1.2 GC Hi Hp GB Gp).mono ?_;rintro e w' ⟨A',c',rfl,h1,h2,hf,hr⟩;refine⟨A',c',rfl,⟨h1,⟨h2,hx.2.1.2⟩,λh0=>?_⟩,hf⟩;obtain⟨g,zs,rfl,hg,Hi,Gp⟩:=hr h0;exact⟨g,0,rfl,rowA hg Hi λj u hj=>by rw[Nat.zero_add];exact Gp j u hj⟩
def BzP (xs:List Prc):Prop:=∀(w:World)(S:Nat->Prop)(A:Option Addr)(c:Nat),(∀b,S b->b < w.heap.size)->SlR (PrR w S False xs) xs.length 72 A c->
 Calls Tryz.prog 39 #[.slice A xs.length c,.func (.func 40) #[] #[]] w λe w'=>∃A' c',e= .returned (.slice A' xs.length c')/\SlR (PrR w' (New w.heap.size w') True (xs.map Prc.bare)) xs.length 72 A' c'/\Fr NoT w w'
theorem zqw (xs:List Prc)(Hb:∀x∈xs,zbC (zdK False) oneP 4 40 Prc.bare x):BzP xs:=by
 intro w S A c hS hx;obtain⟨cs,GC,Hi,Hp,GB,Gp⟩:=slP hx;refine(zqt xs Hb w S A c cs hS (aK hx.1 hx.2.1.1) hx.2.1.2 GC Hi Hp GB Gp).mono ?_;rintro e w' ⟨A',c',rfl,h1,h2,hf,hr⟩;refine⟨A',c',rfl,⟨h1,⟨h2,hx.2.1.2⟩,λh0=>?_⟩,hf⟩;obtain⟨g,zs,rfl,hg,Hi,Gp⟩:=hr h0;exact⟨g,0,rfl,rowP hg Hi λj u hj=>by rw[Nat.zero_add];exact Gp j u hj⟩
theorem zfB:in64 0:=by unfold in64;decide
def LowS (L:Nat)(w w':World):Prop:=SameS (λb=>L<=b/\b < w.heap.size) w w'/\w.heap.size<=w'.heap.size
theorem LowS.set {L:Nat}{w w':World}{g:Nat}(h:LowS L w w')(hg:g < L)(i:Nat)(u:Value):LowS L w (w'.setCell ⟨g,i,none⟩ u):=by
 have k:=(Fr.own (Fr.refl (λb=>b=g) w') i u).same (S:=λb=>L<=b/\b < w.heap.size) λb hb=>⟨by have:=h.2;omega,λe=>by have e:b=g:=e;have:=hb.1;omega⟩;exact⟨λa ha=>⟨(k a ha).1.trans (h.1 a ha).1,(k a ha).2.trans (h.1 a ha).2⟩,by simpa using h.2⟩
theorem LowS.of {L:Nat}{w w':World}(h:Fr NoT w w'):LowS L w w':=⟨h.same λb hb=>⟨hb.2,id⟩,h.size⟩
theorem LowS.step {L:Nat}{w w' w'':World}(h:LowS L w w')(hf:Fr NoT w' w''):LowS L w w'':=by
 have k:=hf.same (S:=λb=>L<=b/\b < w.heap.size) λb hb=>⟨by have:=h.2;omega,id⟩;exact⟨λa ha=>⟨(k a ha).1.trans (h.1 a ha).1,(k a ha).2.trans (h.1 a ha).2⟩,aK h.2 hf.size⟩
section
variable {L L' m:Nat} {w w':World} {A:Option Addr} {c:Nat}
theorem LowS.x {xs:Exs}(h:LowS L' w w')(hL:L<=L')(hx:SlR (λb o=>ExR w (New L' w) True xs b o) m 64 A c):SlR (λb o=>ExR w' (New L w') True xs b o) m 64 A c:=
 hx.imp λ_ _ k=>ExR.more (λb hb=>⟨aK hL hb.1,aM hb.2 h.2⟩) (ExR.keep h.1 k)
theorem LowS.cn {xs:Cds}(h:LowS L' w w')(hL:L<=L')(hx:SlR (λb o=>CdR w (New L' w) True xs b o) m 64 A c):SlR (λb o=>CdR w' (New L w') True xs b o) m 64 A c:=
 hx.imp λ_ _ k=>CdR.more (λb hb=>⟨aK hL hb.1,aM hb.2 h.2⟩) (CdR.keep h.1 k)
theorem LowS.s {xs:Sts}(h:LowS L' w w')(hL:L<=L')(hx:SlR (λb o=>StR w (New L' w) True xs b o) m 128 A c):SlR (λb o=>StR w' (New L w') True xs b o) m 128 A c:=
 hx.imp λ_ _ k=>StR.more (λb hb=>⟨aK hL hb.1,aM hb.2 h.2⟩) (StR.keep h.1 k)
theorem LowS.v {xs:List Va}(h:LowS L' w w')(hL:L<=L')(hx:SlR (VaR w (New L' w) True xs) m 24 A c):SlR (VaR w' (New L w') True xs) m 24 A c:=
 hx.imp λ_ _ k=>VaR.more (λb hb=>⟨aK hL hb.1,aM hb.2 h.2⟩) (VaR.keep h.1 k)
end
theorem zqx (x:Va):zbC oneV oneV 2 34 Va.bare x:=by
 intro w S ys g o T cur hS h Hr hc;obtain⟨rfl,Hg⟩:=h;have c1:=(Hr.cell (o+1)).trans (hc 1 _ rfl);have f1:=Hr.frozen (o+1);have GY:=Hr.lt;have F4:=aA Hr;have HC:=aA hc;clear hS Hr hc;go_enter Tryz.func34,Tryz.ntmps34;go_wp2_with fail;go_end0;have a1:=(OneAtB.refl (m:=2) rfl HC.out).set 1 (.int .i64 0) (by decide);exact⟨rfl,_,_,F4.set_ (o+1) (.int .i64 0),a1,⟨rfl,zfB⟩,(Fr.refl (λb=>b=g) w).own _ _⟩
theorem zqy (x:Arr):zbC oneA oneA 3 36 Arr.bare x:=by
 intro w S ys g o T cur hS h Hr hc;obtain⟨rfl,Hx,Hg⟩:=h;have c1:=(Hr.cell (o+2)).trans (hc 2 _ rfl);have f1:=Hr.frozen (o+2);have GY:=Hr.lt;have F4:=aA Hr;have HC:=aA hc;clear hS Hr hc;go_enter Tryz.func36,Tryz.ntmps36;go_wp2_with fail;go_end0;have a1:=(OneAtB.refl (m:=3) rfl HC.out).set 2 (.int .i64 0) (by decide);exact⟨rfl,_,_,F4.set_ (o+2) (.int .i64 0),a1,⟨rfl,Hx,zfB⟩,(Fr.refl (λb=>b=g) w).own _ _⟩
theorem zqz (x:Ex)(Hb:BzX x.args):zbC (zdd False) oneX 5 68 Ex.brz x:=by
 intro w S ys g o T cur hS h Hr hc;obtain⟨A,c,rfl,hk,hn,Hg,Gq⟩:=h;have c3:=(Hr.cell (o+3)).trans (hc 3 _ rfl);have GY:=Hr.lt;have HX:=aA (Hb w S A c (λb hb=>(hS b hb).1) Gq);have F4:=aA Hr;have HC:=aA hc;have HK:=aA (aG hk hn);have HM:=aA (zbe x.args);obtain⟨m,hm⟩:=aF x.args.len;rw[<-hm]at c3 HX HC HM;clear hS Hr hc hk hn Hg Gq Hb hm;go_enter Tryz.func68,Tryz.ntmps68;go_wp2_with fail;refine HX.mono ?_;rintro _ w1 ⟨A',c',rfl,Gq,hf⟩;have k1:=F4.fr0 hf;have f3:=k1.frozen (o+3);have f4:=k1.frozen (o+4);have l1:=k1.lt;have q3:=(k1.cell (o+3)).trans (HC 3 _ rfl);have q4:=(k1.cell (o+4)).trans (HC 4 _ rfl);have K0:=aA k1;have Pf:=aA Gq;have HF:=aA hf;clear k1 Gq hf c3;go_wp2_with fail;go_end0;have a1:=((OneAtB.refl (m:=5) rfl HC.out).set 4 (.int .i64 0) (by decide)).set 3 (.slice A' m c') (by decide);have a2:=(K0.set_ (o+4) (.int .i64 0)).set_ (o+3) (.slice A' m c');have a3:=((HF.any:Fr (λb=>b=g) w w1).own (o+4) (.int .i64 0)).own (o+3) (.slice A' m c');refine⟨rfl,_,_,a2,a1,⟨A',c',?_,HK.1,HK.2,zfB,?_⟩,a3⟩
 ·show _=([.int .u8 x.k,.string x.nm,.int .i64 x.n,.slice A' x.args.bare.len c',.int .i64 0]:List Value)
  rw[HM.out];rfl
 show SlR _ x.args.bare.len 64 A' c'
 rw[HM.out];exact(((LowS.of (Fr.refl NoT w1)).set GY _ _).set GY _ _).x (aL _) Pf.out
theorem zqA (x:Cn)(h1:BzX x.args)(Hb:BzC x.of_):zbC (zde False) oneC 4 70 Cn.brz x:=by
 intro w S ys g o T cur hS h Hr hc;obtain⟨A,c,B,d,rfl,hk,Hg,Gq,LK⟩:=h;have c1:=(Hr.cell (o+1)).trans (hc 1 _ rfl);have c2:=(Hr.cell (o+2)).trans (hc 2 _ rfl);have GY:=Hr.lt;have HX:=aA (λ(W:World)(hf:Fr NoT w W)=>h1 W S A c (λb hb=>aM (hS b hb).1 hf.size) (Gq.imp λ_ _ h=>ExR.keep (hf.same λb hb=>⟨(hS b hb).1,id⟩) h));have HC:=aA (λ(W:World)(hf:Fr NoT w W)=>Hb W S B d (λb hb=>aM (hS b hb).1 hf.size) (LK.imp λ_ _ h=>CdR.keep (hf.same λb hb=>⟨(hS b hb).1,id⟩) h));have F4:=aA Hr;have KC:=aA hc;have HK:=aA hk;have HM:=aA (aG (zbe x.args) (zcc x.of_));obtain⟨m,hm⟩:=aF x.args.len;obtain⟨m2,JY⟩:=aF x.of_.len;rw[<-hm]at c1 HX KC HM;rw[<-JY]at c2 HC KC HM;clear hS Hr hc Gq LK h1 Hb hk Hg hm JY;go_enter Tryz.func70,Tryz.ntmps70;go_wp2_with fail;refine zad (λW'=>g < W'.heap.size/\W'.cell? ⟨g,o+1,none⟩=some (.slice A m c)/\W'.cell? ⟨g,o+2,none⟩=some (.slice B m2 d)) (λi=>decide (i < 13)) (by kernel_rfl) ⟨GY,c1,c2⟩ (λaC=>?_);refine zaa 0 ?_;simp only[aB];refine zaa 1 ?_;simp only[aB];refine zaa 2 ?_;simp only[aB];refine zaa 3 ?_;simp only[aB];refine zaa 4 ?_;simp only[aB];refine zaa 5 ?_;simp only[aB];refine zaa 8 ?_;simp only[aB];refine zaa 9 ?_;simp only[aB];refine zaa 10 ?_;simp only[aB];refine zbY 6 aC ?_;simp only[aB];refine zbY 11 aC ?_;simp only[aB];refine zab 7 rfl (by kernel_rfl) (λKK hK=>?_);go_simp;go_at_call 67;refine(HX _ ((Fr.refl NoT w).drew)).mono ?_
 rintro _ w1 ⟨A',c',rfl,Gq,Hd⟩;have Hl:=aA (((Fr.refl NoT w).drew).trans Hd);have Fo:=F4.fr0 Hl.out;have GV:g < w1.heap.size/\w1.cell? ⟨g,o+1,none⟩=some (.slice A m c)/\w1.cell? ⟨g,o+2,none⟩=some (.slice B m2 d):=⟨Fo.lt,(Fo.cell _).trans (KC 1 _ rfl),(Fo.cell _).trans (KC 2 _ rfl)⟩;have Pf:=aA Gq;clear aC Gq Hd Fo;dsimp only;refine hK _ _ (λ_ _=>GV) ?_;clear hK KK;have aC:=GV;clear GV;try simp only[aB]
 refine zab 12 rfl (by kernel_rfl) (λKK hK=>?_);go_simp;go_at_call 69;refine(HC _ Hl.out).mono ?_;rintro _ w2 ⟨B',d',rfl,LK,He⟩;have GS:=(F4.fr0 Hl.out).fr0 He;have PL:=GS.lt;have f1:=GS.frozen (o+1);have f2:=GS.frozen (o+2);have f3:=GS.frozen (o+3);have q1:=(GS.cell (o+1)).trans (KC 1 _ rfl);have q2:=(GS.cell (o+2)).trans (KC 2 _ rfl);have q3:=(GS.cell (o+3)).trans (KC 3 _ rfl);have Hu:=aA He;have JE:=aA GS;have NV:=aA LK;clear LK He GS;dsimp only;refine hK _ _ (λ_ _=>⟨PL,q1,q2⟩) ?_;clear hK KK aC;try simp only[aB]
 refine zab 13 rfl (by kernel_rfl) (λKK hK=>?_);go_simp;refine hK _ _ (λh=>absurd h (by decide)) ?_;clear hK KK;try simp only[aB]
 refine zab 14 rfl (by kernel_rfl) (λKK hK=>?_);go_simp;refine hK _ _ (λh=>absurd h (by decide)) ?_;clear hK KK;try simp only[aB]
 refine zab 15 rfl (by kernel_rfl) (λKK hK=>?_);go_simp;refine hK _ _ (λh=>absurd h (by decide)) ?_;clear hK KK;try simp only[aB]
 refine zab 16 rfl (by kernel_rfl) (λKK hK=>?_);go_simp;refine hK _ _ (λh=>absurd h (by decide)) ?_;clear hK KK;try simp only[aB]
 refine zab 17 rfl (by kernel_rfl) (λKK hK=>?_);go_simp;refine hK _ _ (λh=>absurd h (by decide)) ?_;clear hK KK;try simp only[aB]
 refine zab 18 rfl (by kernel_rfl) (λKK hK=>?_);go_simp;refine hK _ _ (λh=>absurd h (by decide)) ?_;clear hK KK;try simp only[aB]
 refine zab 19 rfl (by kernel_rfl) (λKK hK=>?_);go_simp;refine hK _ _ (λh=>absurd h (by decide)) ?_;clear hK KK;try simp only[aB]
 refine zab 20 rfl (by kernel_rfl) (λKK hK=>?_);go_simp;refine hK _ _ (λh=>absurd h (by decide)) ?_;clear hK KK;try simp only[aB]
 refine zab 21 rfl (by kernel_rfl) (λKK hK=>?_);go_simp;refine hK _ _ (λh=>absurd h (by decide)) ?_;clear hK KK;try simp only[aB]
 refine zae (by kernel_rfl) ?_;go_wp2_with fail;go_end0;have Pj:Fr NoT w w2:=Hl.trans Hu.out;have a1:=(((OneAtB.refl (m:=4) rfl KC.out).set 3 (.int .i64 0) (by decide)).set 1 (.slice A' m c') (by decide)).set 2 (.slice B' m2 d') (by decide);have a2:=((JE.set_ (o+3) (.int .i64 0)).set_ (o+1) (.slice A' m c')).set_ (o+2) (.slice B' m2 d');have a3:=(((Pj.any:Fr (λb=>b=g) w w2).own (o+3) (.int .i64 0)).own (o+1) (.slice A' m c')).own (o+2) (.slice B' m2 d');refine⟨rfl,_,_,a2,a1,⟨A',c',B',d',?_,HK.out,zfB,?_,?_⟩,a3⟩
 ·show _=([.int .u8 x.k,.slice A' x.args.bare.len c',.slice B' x.of_.bare.len d',.int .i64 0]:List Value)
  rw[HM.1,HM.2];rfl
 ·show SlR _ x.args.bare.len 64 A' c'
  rw[HM.1];exact((((LowS.of Hu.out).set GY _ _).set GY _ _).set GY _ _).x (aL _) Pf.out
 ·show SlR _ x.of_.bare.len 64 B' d'
  rw[HM.2];exact((((LowS.of (Fr.refl NoT w2)).set (aM GY Hl.size) _ _).set (aM GY Hl.size) _ _).set (aM GY Hl.size) _ _).cn Hl.size NV.out
theorem zqB (x:Prc)(h1:BzV x.params)(Hb:BzS x.body):zbC (zdK False) oneP 4 40 Prc.bare x:=by
 intro w S ys g o T cur hS h Hr hc;obtain⟨A,c,B,d,rfl,Hg,Gq,LK⟩:=h;have c1:=(Hr.cell (o+1)).trans (hc 1 _ rfl);have c2:=(Hr.cell (o+2)).trans (hc 2 _ rfl);have GY:=Hr.lt;have HX:=aA (λ(W:World)(hf:Fr NoT w W)=>h1 W S A c (λb hb=>aM (hS b hb).1 hf.size) (Gq.imp λ_ _ h=>VaR.keep (hf.same λb hb=>⟨(hS b hb).1,id⟩) h));have HC:=aA (λ(W:World)(hf:Fr NoT w W)=>Hb W S B d (λb hb=>aM (hS b hb).1 hf.size) (LK.imp λ_ _ h=>StR.keep (hf.same λb hb=>⟨(hS b hb).1,id⟩) h));have F4:=aA Hr;have KC:=aA hc;have HM:=aA (aG (show(x.params.map Va.bare).length =x.params.length from List.length_map ..) (zbO x.body));obtain⟨m,hm⟩:=aF x.params.length;obtain⟨m2,JY⟩:=aF x.body.len;rw[<-hm]at c1 HX KC HM;rw[<-JY]at c2 HC KC HM;clear hS Hr hc Gq LK h1 Hb Hg hm JY;go_enter Tryz.func40,Tryz.ntmps40;go_wp2_with fail;refine zad (λW'=>g < W'.heap.size/\W'.cell? ⟨g,o+1,none⟩=some (.slice A m c)/\W'.cell? ⟨g,o+2,none⟩=some (.slice B m2 d)) (λi=>decide (i < 13)) (by kernel_rfl) ⟨GY,c1,c2⟩ (λaC=>?_);refine zaa 0 ?_;simp only[aB];refine zaa 1 ?_;simp only[aB];refine zaa 2 ?_;simp only[aB];refine zaa 3 ?_;simp only[aB];refine zaa 4 ?_;simp only[aB];refine zaa 5 ?_;simp only[aB];refine zaa 8 ?_;simp only[aB];refine zaa 9 ?_;simp only[aB];refine zaa 10 ?_;simp only[aB];refine zbY 6 aC ?_;simp only[aB];refine zbY 11 aC ?_;simp only[aB];refine zab 7 rfl (by kernel_rfl) (λKK hK=>?_);go_simp;go_at_call 33
 refine(HX _ ((Fr.refl NoT w).drew)).mono ?_;rintro _ w1 ⟨A',c',rfl,Gq,Hd⟩;have Hl:=aA (((Fr.refl NoT w).drew).trans Hd);have Fo:=F4.fr0 Hl.out;have GV:g < w1.heap.size/\w1.cell? ⟨g,o+1,none⟩=some (.slice A m c)/\w1.cell? ⟨g,o+2,none⟩=some (.slice B m2 d):=⟨Fo.lt,(Fo.cell _).trans (KC 1 _ rfl),(Fo.cell _).trans (KC 2 _ rfl)⟩;have Pf:=aA Gq;clear aC Gq Hd Fo;dsimp only;refine hK _ _ (λ_ _=>GV) ?_;clear hK KK;have aC:=GV;clear GV;try simp only[aB]
 refine zab 12 rfl (by kernel_rfl) (λKK hK=>?_);go_simp;go_at_call 37;refine(HC _ Hl.out).mono ?_;rintro _ w2 ⟨B',d',rfl,LK,He⟩;have GS:=(F4.fr0 Hl.out).fr0 He;have PL:=GS.lt;have f1:=GS.frozen (o+1);have f2:=GS.frozen (o+2);have f3:=GS.frozen (o+3);have q1:=(GS.cell (o+1)).trans (KC 1 _ rfl);have q2:=(GS.cell (o+2)).trans (KC 2 _ rfl);have q3:=(GS.cell (o+3)).trans (KC 3 _ rfl);have Hu:=aA He;have JE:=aA GS;have NV:=aA LK;clear LK He GS;dsimp only;refine hK _ _ (λ_ _=>⟨PL,q1,q2⟩) ?_;clear hK KK aC;try simp only[aB]
 refine zab 13 rfl (by kernel_rfl) (λKK hK=>?_);go_simp;refine hK _ _ (λh=>absurd h (by decide)) ?_;clear hK KK;try simp only[aB]
 refine zab 14 rfl (by kernel_rfl) (λKK hK=>?_);go_simp;refine hK _ _ (λh=>absurd h (by decide)) ?_;clear hK KK;try simp only[aB]
 refine zab 15 rfl (by kernel_rfl) (λKK hK=>?_);go_simp;refine hK _ _ (λh=>absurd h (by decide)) ?_;clear hK KK;try simp only[aB]
 refine zab 16 rfl (by kernel_rfl) (λKK hK=>?_);go_simp;refine hK _ _ (λh=>absurd h (by decide)) ?_;clear hK KK;try simp only[aB]
 refine zab 17 rfl (by kernel_rfl) (λKK hK=>?_);go_simp;refine hK _ _ (λh=>absurd h (by decide)) ?_;clear hK KK;try simp only[aB]
 refine zab 18 rfl (by kernel_rfl) (λKK hK=>?_);go_simp;refine hK _ _ (λh=>absurd h (by decide)) ?_;clear hK KK;try simp only[aB]
 refine zab 19 rfl (by kernel_rfl) (λKK hK=>?_);go_simp;refine hK _ _ (λh=>absurd h (by decide)) ?_;clear hK KK;try simp only[aB]
 refine zab 20 rfl (by kernel_rfl) (λKK hK=>?_);go_simp;refine hK _ _ (λh=>absurd h (by decide)) ?_;clear hK KK;try simp only[aB]
 refine zab 21 rfl (by kernel_rfl) (λKK hK=>?_);go_simp;refine hK _ _ (λh=>absurd h (by decide)) ?_;clear hK KK;try simp only[aB]
 refine zae (by kernel_rfl) ?_;go_wp2_with fail;go_end0;have Pj:Fr NoT w w2:=Hl.trans Hu.out;have a1:=(((OneAtB.refl (m:=4) rfl KC.out).set 3 (.int .i64 0) (by decide)).set 1 (.slice A' m c') (by decide)).set 2 (.slice B' m2 d') (by decide);have a2:=((JE.set_ (o+3) (.int .i64 0)).set_ (o+1) (.slice A' m c')).set_ (o+2) (.slice B' m2 d');have a3:=(((Pj.any:Fr (λb=>b=g) w w2).own (o+3) (.int .i64 0)).own (o+1) (.slice A' m c')).own (o+2) (.slice B' m2 d');refine⟨rfl,_,_,a2,a1,⟨A',c',B',d',?_,zfB,?_,?_⟩,a3⟩
 ·show _=([.string x.nm,.slice A' (x.params.map Va.bare).length c',.slice B' x.body.bare.len d',.int .i64 0]:List Value)
  rw[HM.1,HM.2];rfl
 ·show SlR _ (x.params.map Va.bare).length 24 A' c'
  rw[HM.1];exact((((LowS.of Hu.out).set GY _ _).set GY _ _).set GY _ _).v (aL _) Pf.out
 ·show SlR _ x.body.bare.len 128 B' d'
  rw[HM.2];exact((((LowS.of (Fr.refl NoT w2)).set (aM GY Hl.size) _ _).set (aM GY Hl.size) _ _).set (aM GY Hl.size) _ _).s Hl.size NV.out
theorem zqC (x:St)(h1:BzX x.args)(h2:BzC x.cond)(h3:BzS x.body)(h4:BzS x.els):zbC (zdf False) oneS 7 38 St.brz x:=by
 intro w S ys g o T cur hS h Hr hc;obtain⟨A2,p2,A3,p3,A4,p4,A5,p5,rfl,hk,Hg,s2,s3,s4,s5⟩:=h;have c2:=(Hr.cell (o+2)).trans (hc 2 _ rfl);have c3:=(Hr.cell (o+3)).trans (hc 3 _ rfl);have GY:=Hr.lt;have GZ:=λ(W:World)(hf:Fr (λb=>b=g) w W)=>hf.same (S:=S) λb hb=>⟨(hS b hb).1,λe=>(hS b hb).2 e⟩;have Fk:=λ(W:World)(hf:Fr (λb=>b=g) w W) b (hb:S b)=>aM (hS b hb).1 hf.size;have H1:=aA (λ(W:World)(hf:Fr (λb=>b=g) w W)=>h1 W S A2 p2 (Fk W hf) (s2.imp λ_ _ h=>ExR.keep (GZ W hf) h));have H2:=aA (λ(W:World)(hf:Fr (λb=>b=g) w W)=>h2 W S A3 p3 (Fk W hf) (s3.imp λ_ _ h=>CdR.keep (GZ W hf) h));have H3:=aA (λ(W:World)(hf:Fr (λb=>b=g) w W)=>h3 W S A4 p4 (Fk W hf) (s4.imp λ_ _ h=>StR.keep (GZ W hf) h));have H4:=aA (λ(W:World)(hf:Fr (λb=>b=g) w W)=>h4 W S A5 p5 (Fk W hf) (s5.imp λ_ _ h=>StR.keep (GZ W hf) h));have F4:=aA Hr;have KC:=aA hc;have HK:=aA hk;have HM:=aA (aG (zbe x.args) (aG (zcc x.cond) (aG (zbO x.body) (zbO x.els))));obtain⟨m2,JY⟩:=aF x.args.len;obtain⟨m3,JU⟩:=aF x.cond.len;obtain⟨m4,PO⟩:=aF x.body.len;obtain⟨m5,Qb⟩:=aF x.els.len;rw[<-JY]at c2 H1 KC HM;rw[<-JU]at c3 H2 KC HM;rw[<-PO]at H3 KC HM;rw[<-Qb]at H4 KC HM;clear hS Hr hc s2 s3 s4 s5 h1 h2 h3 h4 hk Hg GZ Fk JY JU PO Qb;go_enter Tryz.func38,Tryz.ntmps38;go_wp2_with fail;refine zad (λW'=>g < W'.heap.size/\W'.cell? ⟨g,o+2,none⟩=some (.slice A2 m2 p2)/\W'.cell? ⟨g,o+3,none⟩=some (.slice A3 m3 p3)) (λi=>decide (i < 13)) (by kernel_rfl) ⟨GY,c2,c3⟩ (λaC=>?_);refine zaa 0 ?_;simp only[aB]
 refine zaa 1 ?_;simp only[aB];refine zaa 2 ?_;simp only[aB];refine zaa 3 ?_;simp only[aB];refine zaa 4 ?_;simp only[aB];refine zaa 5 ?_;simp only[aB];refine zaa 8 ?_;simp only[aB];refine zaa 9 ?_;simp only[aB];refine zaa 10 ?_;simp only[aB];refine zbY 6 aC ?_;simp only[aB];refine zbY 11 aC ?_;simp only[aB];refine zab 7 rfl (by kernel_rfl) (λKK hK=>?_);go_simp;go_at_call 67;refine(H1 _ ((Fr.refl (λb=>b=g) w).drew)).mono ?_;rintro _ w1 ⟨B2,q2,rfl,Gq,Hd⟩;have Hl:=aA (((Fr.refl NoT w).drew).trans Hd);have Fo:=F4.fr0 Hl.out;have GV:g < w1.heap.size/\w1.cell? ⟨g,o+2,none⟩=some (.slice A2 m2 p2)/\w1.cell? ⟨g,o+3,none⟩=some (.slice A3 m3 p3):=⟨Fo.lt,(Fo.cell _).trans (KC 2 _ rfl),(Fo.cell _).trans (KC 3 _ rfl)⟩;have NV:=aA Gq;clear aC Gq Hd Fo;dsimp only;refine hK _ _ (λ_ _=>GV) ?_;clear hK KK;have aC:=GV;clear GV;try simp only[aB]
 refine zab 12 rfl (by kernel_rfl) (λKK hK=>?_);go_simp;go_at_call 69;refine(H2 _ Hl.any).mono ?_;rintro _ w2 ⟨B3,q3,rfl,XJ,He⟩;have GS:=(F4.fr0 Hl.out).fr0 He;have PL:=GS.lt;have f2:=GS.frozen (o+2);have f3:=GS.frozen (o+3);have f6:=GS.frozen (o+6);have g2:=(GS.cell (o+2)).trans (KC 2 _ rfl);have g3:=(GS.cell (o+3)).trans (KC 3 _ rfl);have g6:=(GS.cell (o+6)).trans (KC 6 _ rfl);have Hu:=aA He;have JE:=aA GS;have US:=aA XJ;clear XJ He GS;dsimp only;refine hK _ _ (λ_ _=>⟨PL,g2,g3⟩) ?_;clear hK KK aC;try simp only[aB]
 refine zab 13 rfl (by kernel_rfl) (λKK hK=>?_);go_simp;refine hK _ _ (λh=>absurd h (by decide)) ?_;clear hK KK;try simp only[aB]
 refine zab 14 rfl (by kernel_rfl) (λKK hK=>?_);go_simp;refine hK _ _ (λh=>absurd h (by decide)) ?_;clear hK KK;try simp only[aB]
 refine zab 15 rfl (by kernel_rfl) (λKK hK=>?_);go_simp;refine hK _ _ (λh=>absurd h (by decide)) ?_;clear hK KK;try simp only[aB]
 refine zab 16 rfl (by kernel_rfl) (λKK hK=>?_);go_simp;refine hK _ _ (λh=>absurd h (by decide)) ?_;clear hK KK;try simp only[aB]
 refine zab 17 rfl (by kernel_rfl) (λKK hK=>?_);go_simp;refine hK _ _ (λh=>absurd h (by decide)) ?_;clear hK KK;try simp only[aB]
 refine zab 18 rfl (by kernel_rfl) (λKK hK=>?_);go_simp;refine hK _ _ (λh=>absurd h (by decide)) ?_;clear hK KK;try simp only[aB]
 refine zab 19 rfl (by kernel_rfl) (λKK hK=>?_);go_simp;refine hK _ _ (λh=>absurd h (by decide)) ?_;clear hK KK;try simp only[aB]
 refine zab 20 rfl (by kernel_rfl) (λKK hK=>?_);go_simp;refine hK _ _ (λh=>absurd h (by decide)) ?_;clear hK KK;try simp only[aB]
 refine zab 21 rfl (by kernel_rfl) (λKK hK=>?_);go_simp;refine hK _ _ (λh=>absurd h (by decide)) ?_;clear hK KK;try simp only[aB]
 refine zae (by kernel_rfl) ?_;obtain⟨w3,GR⟩:=aF (((w2.setCell ⟨g,o+6,none⟩ (.int .i64 0)).setCell ⟨g,o+2,none⟩ (.slice B2 m2 q2)).setCell ⟨g,o+3,none⟩ (.slice B3 m3 q3));have Pj:Fr NoT w w2:=Hl.trans Hu.out;have a1:=(((OneAtB.refl (m:=7) rfl KC.out).set 6 (.int .i64 0) (by decide)).set 2 (.slice B2 m2 q2) (by decide)).set 3 (.slice B3 m3 q3) (by decide);have a2:=((JE.set_ (o+6) (.int .i64 0)).set_ (o+2) (.slice B2 m2 q2)).set_ (o+3) (.slice B3 m3 q3);have a3:=(((Pj.any:Fr (λb=>b=g) w w2).own (o+6) (.int .i64 0)).own (o+2) (.slice B2 m2 q2)).own (o+3) (.slice B3 m3 q3);have l1:=(((LowS.of Hu.out).set GY (o+6) (.int .i64 0)).set GY (o+2) (.slice B2 m2 q2)).set GY (o+3) (.slice B3 m3 q3);have PM:g < w1.heap.size:=aM GY Hl.size;have l2:=(((LowS.of (L:=w1.heap.size) (Fr.refl NoT w2)).set PM (o+6) (.int .i64 0)).set PM (o+2) (.slice B2 m2 q2)).set PM (o+3) (.slice B3 m3 q3);rw[<-GR]at a2 a3 l1 l2;have HA:=aA a1;have HL:=aA (aG l1 l2);have Gi:=aA a3;have Ly:=aA a2;have LT:=aA GR;have c4:=(a2.cell (o+4)).trans (a1.2.2.1 4 _ rfl);have c5:=(a2.cell (o+5)).trans (a1.2.2.1 5 _ rfl);have SE:=a2.lt;clear a1 a2 a3 l1 l2 GR Pj f2 f3 f6 g2 g3 g6 PL;rw[<-LT.out];go_wp2_with fail;refine zad (λW'=>g < W'.heap.size/\W'.cell? ⟨g,o+4,none⟩=some (.slice A4 m4 p4)/\W'.cell? ⟨g,o+5,none⟩=some (.slice A5 m5 p5)) (λi=>decide (i < 12)) (by kernel_rfl) ⟨SE,c4,c5⟩ (λaC=>?_);refine zaa 0 ?_;simp only[aB];refine zaa 1 ?_;simp only[aB];refine zaa 2 ?_;simp only[aB];refine zaa 3 ?_
 simp only[aB];refine zaa 4 ?_;simp only[aB];refine zaa 7 ?_;simp only[aB];refine zaa 8 ?_;simp only[aB];refine zaa 9 ?_;simp only[aB];refine zbY 5 aC ?_;simp only[aB];refine zbY 10 aC ?_;simp only[aB];refine zab 6 rfl (by kernel_rfl) (λKK hK=>?_);go_simp;go_at_call 37;refine(H3 _ (Gi.drew)).mono ?_;rintro _ w4 ⟨B4,q4,rfl,XK,HJ⟩;have GG:=aA (((Fr.refl NoT w3).drew).trans HJ);have Fq:=Ly.fr0 GG.out;have Mt:g < w4.heap.size/\w4.cell? ⟨g,o+4,none⟩=some (.slice A4 m4 p4)/\w4.cell? ⟨g,o+5,none⟩=some (.slice A5 m5 p5):=⟨Fq.lt,(Fq.cell _).trans (HA.2.2.1 4 _ rfl),(Fq.cell _).trans (HA.2.2.1 5 _ rfl)⟩;have UT:=aA XK;clear aC XK HJ Fq;dsimp only;refine hK _ _ (λ_ _=>Mt) ?_;clear hK KK;have aC:=Mt;clear Mt;try simp only[aB]
 refine zab 11 rfl (by kernel_rfl) (λKK hK=>?_);go_simp;go_at_call 37;refine(H4 _ (Gi.trans GG.any)).mono ?_;rintro _ w5 ⟨B5,q5,rfl,XL,Hm⟩;have Hz:=(Ly.fr0 GG.out).fr0 Hm;have jc:=Hz.lt;have f4:=Hz.frozen (o+4);have f5:=Hz.frozen (o+5);have g4:=(Hz.cell (o+4)).trans (HA.2.2.1 4 _ rfl);have g5:=(Hz.cell (o+5)).trans (HA.2.2.1 5 _ rfl);have Gk:=aA Hm;have JF:=aA Hz;have UU:=aA XL;clear XL Hm Hz;dsimp only;refine hK _ _ (λ_ _=>⟨jc,g4,g5⟩) ?_;clear hK KK aC;try simp only[aB]
 refine zab 12 rfl (by kernel_rfl) (λKK hK=>?_);go_simp;refine hK _ _ (λh=>absurd h (by decide)) ?_;clear hK KK;try simp only[aB]
 refine zab 13 rfl (by kernel_rfl) (λKK hK=>?_);go_simp;refine hK _ _ (λh=>absurd h (by decide)) ?_;clear hK KK;try simp only[aB]
 refine zab 14 rfl (by kernel_rfl) (λKK hK=>?_);go_simp;refine hK _ _ (λh=>absurd h (by decide)) ?_;clear hK KK;try simp only[aB]
 refine zab 15 rfl (by kernel_rfl) (λKK hK=>?_);go_simp;refine hK _ _ (λh=>absurd h (by decide)) ?_;clear hK KK;try simp only[aB]
 refine zab 16 rfl (by kernel_rfl) (λKK hK=>?_);go_simp;refine hK _ _ (λh=>absurd h (by decide)) ?_;clear hK KK;try simp only[aB]
 refine zab 17 rfl (by kernel_rfl) (λKK hK=>?_);go_simp;refine hK _ _ (λh=>absurd h (by decide)) ?_;clear hK KK;try simp only[aB]
 refine zae (by kernel_rfl) ?_;go_wp2_with fail;go_end0;have jd:Fr NoT w3 w5:=GG.trans Gk.out;have a1:=(HA.set 4 (.slice B4 m4 q4) (by decide)).set 5 (.slice B5 m5 q5) (by decide);have a2:=(JF.set_ (o+4) (.slice B4 m4 q4)).set_ (o+5) (.slice B5 m5 q5);have a3:=((Gi.trans (jd.any:Fr (λb=>b=g) w3 w5)).own (o+4) (.slice B4 m4 q4)).own (o+5) (.slice B5 m5 q5);have zh:w1.heap.size<=w3.heap.size:=HL.1.2;have XM:w.heap.size<=w3.heap.size:=Gi.size;have PM:g < w1.heap.size:=aM GY Hl.size;have QZ:g < w4.heap.size:=aM SE GG.size;refine⟨rfl,_,_,a2,a1,⟨B2,q2,B3,q3,B4,q4,B5,q5,?_,HK.out,zfB,?_,?_,?_,?_⟩,a3⟩
 ·show _=([.int .u8 x.k,.string x.nm,.slice B2 x.args.bare.len q2,.slice B3 x.cond.bare.len q3,.slice B4 x.body.bare.len q4,.slice B5 x.els.bare.len q5,.int .i64 0]:List Value)
  rw[HM.1,HM.2.1,HM.2.2.1,HM.2.2.2];rfl
 ·show SlR _ x.args.bare.len 64 B2 q2
  rw[HM.1];exact(((HL.1.step jd).set GY _ _).set GY _ _).x (aL _) NV.out
 ·show SlR _ x.cond.bare.len 64 B3 q3
  rw[HM.2.1];exact(((HL.2.step jd).set PM _ _).set PM _ _).cn Hl.size US.out
 ·show SlR _ x.body.bare.len 128 B4 q4
  rw[HM.2.2.1];exact(((LowS.of (L:=w3.heap.size) Gk.out).set SE _ _).set SE _ _).s XM UT.out
 ·show SlR _ x.els.bare.len 128 B5 q5
  rw[HM.2.2.2];exact(((LowS.of (L:=w4.heap.size) (Fr.refl NoT w5)).set QZ _ _).set QZ _ _).s (aK XM GG.size) UU.out
theorem zhT:∀(xs:Exs),∀x∈xs.toL,zbC (zdd False) oneX 5 68 Ex.brz x
 | .nil,x,h=>by simp[Exs.toL]at h
 | .cons k nm n args at_ rest,x,h=>by
  rcases List.mem_cons.1 h with e|h
  ·subst e;exact zqz _ (zoo args (zhT args))
  ·exact zhT rest x h
theorem zl4 (xs:Exs):BzX xs:=zoo xs (zhT xs)
theorem zhU:∀(xs:Cds),∀x∈xs.toL,zbC (zde False) oneC 4 70 Cn.brz x
 | .nil,x,h=>by simp[Cds.toL]at h
 | .cons k args of_ at_ rest,x,h=>by
  rcases List.mem_cons.1 h with e|h
  ·subst e;exact zqA _ (zl4 args) (zop of_ (zhU of_))
  ·exact zhU rest x h
theorem zpz (xs:Cds):BzC xs:=zop xs (zhU xs)
theorem zgf:∀(xs:Sts),∀x∈xs.toL,zbC (zdf False) oneS 7 38 St.brz x
 | .nil,x,h=>by simp[Sts.toL]at h
 | .cons k nm args cond body els at_ rest,x,h=>by
  rcases List.mem_cons.1 h with e|h
  ·subst e;exact zqC _ (zl4 args) (zpz cond) (zl3 body (zgf body)) (zl3 els (zgf els))
  ·exact zgf rest x h
theorem zl5 (xs:Sts):BzS xs:=zl3 xs (zgf xs)
theorem zl6 (xs:List Va):BzV xs:=zqu xs λx _=>zqx x
theorem zpA (xs:List Arr):BzA xs:=zqv xs λx _=>zqy x
theorem zpB (xs:List Prc):BzP xs:=zqw xs λx _=>zqB x (zl6 _) (zl5 _)
section
variable {w:World} {S:Nat->Prop} {Z:Prop}
theorem ArR.lax:∀ {xs:List Arr} {b o:Nat},ArR w S Z xs b o->ArR w S False xs b o
 | [],_,_,_=>trivial
 |_::_,b,o,⟨⟨hb,_,h⟩,hr⟩=>⟨⟨hb,λh=>h.elim,h⟩,ArR.lax hr⟩
theorem PrR.lax:∀ {xs:List Prc} {b o:Nat},PrR w S Z xs b o->PrR w S False xs b o
 | [],_,_,_=>trivial
 |_::_,b,o,⟨⟨hb,_,h⟩,⟨A,c,h1,s1⟩,⟨B,d,h2,s2⟩,hr⟩=>⟨⟨hb,λh=>h.elim,h⟩,⟨A,c,h1,s1.imp λ_ _=>VaR.lax⟩,⟨B,d,h2,s2.imp λ_ _=>StR.lax⟩,PrR.lax hr⟩
theorem TrR.lax {t:Tre}{Av Aa Ap Am:Option Addr}{cv ca cp cm:Nat}(h:TrR w S Z t Av Aa Ap Am cv ca cp cm):TrR w S False t Av Aa Ap Am cv ca cp cm:=
 ⟨h.vars.imp λ_ _=>VaR.lax,h.arrays.imp λ_ _=>ArR.lax,h.procs.imp λ_ _=>PrR.lax,h.main.imp λ_ _=>StR.lax⟩
end
theorem znO {T U:Nat->Prop}{a b c:World}(h:Fr T a b)(k:Fr U b c)(ht:∀i,i < a.heap.size->U i->T i):Fr T a c:=
 ⟨k.os.trans h.os,k.tape.trans h.tape,k.output.trans h.output,aK h.size k.size,λi hi hn=>(k.block i (aM hi h.size) λhu=>hn (ht i hi hu)).trans (h.block i hi hn)⟩
theorem LowS.a {L L' m:Nat}{w w':World}{A:Option Addr}{c:Nat}{xs:List Arr}(h:LowS L' w w')(hL:L<=L')(hx:SlR (ArR w (New L' w) True xs) m 32 A c):SlR (ArR w' (New L w') True xs) m 32 A c:=
 hx.imp λ_ _ k=>ArR.more (λb hb=>⟨aK hL hb.1,aM hb.2 h.2⟩) (ArR.keep h.1 k)
theorem LowS.p {L L' m:Nat}{w w':World}{A:Option Addr}{c:Nat}{xs:List Prc}(h:LowS L' w w')(hL:L<=L')(hx:SlR (PrR w (New L' w) True xs) m 72 A c):SlR (PrR w' (New L w') True xs) m 72 A c:=
 hx.imp λ_ _ k=>PrR.more (λb hb=>⟨aK hL hb.1,aM hb.2 h.2⟩) (PrR.keep h.1 k)
theorem zqD:(Tryz.prog.info? 27).map (·.size)=some 4:=by kernel_rfl
def PbP (t:Tre)(W:World)(e:Ending)(w':World):Prop:=∃Av Aa Ap Am cv ca cp cm,e= .returned (trV t Av Aa Ap Am cv ca cp cm)/\TrR w' (New W.heap.size w') True t Av Aa Ap Am cv ca cp cm/\Fr NoT W w'
theorem zl7 (t:Tre)(w:World)(S:Nat->Prop)(Z:Prop)(Av Aa Ap Am:Option Addr)(cv ca cp cm:Nat)(hS:∀b,S b->b < w.heap.size)(hx:TrR w S Z t Av Aa Ap Am cv ca cp cm):
  Calls Tryz.prog 16 #[trV t Av Aa Ap Am cv ca cp cm] w (PbP t.bare w):=by
 unfold trV;replace hx:=hx.lax;have hX:=λ(W:World)(hf:Fr NoT w W)=>hx.keep (hf.same λb hb=>⟨hS b hb,id⟩);have K7:=λ(W:World)(hf:Fr NoT w W) b (hb:S b)=>aM (hS b hb) hf.size;obtain⟨n1,FW⟩:=aF t.vars.length;obtain⟨n2,JT⟩:=aF t.arrays.length;obtain⟨n3,Nn⟩:=aF t.procs.length;obtain⟨n4,PZ⟩:=aF t.main.len;have h1:=λ(W:World)(hf:Fr NoT w W)=>zl6 t.vars W S Av cv (K7 W hf) (hX W hf).vars;have h2:=λ(W:World)(hf:Fr NoT w W)=>zpA t.arrays W S Aa ca (K7 W hf) (hX W hf).arrays;have h3:=λ(W:World)(hf:Fr NoT w W)=>zpB t.procs W S Ap cp (K7 W hf) (hX W hf).procs;have h4:=λ(W:World)(hf:Fr NoT w W)=>zl5 t.main W S Am cm (K7 W hf) (hX W hf).main;have HM:=aA (show t.bare.vars.length=n1/\t.bare.arrays.length=n2/\t.bare.procs.length=n3/\t.bare.main.len=n4 from
  ⟨by rw[FW];exact List.length_map ..,by rw[JT];exact List.length_map ..,by rw[Nn];exact List.length_map ..,by rw[PZ];exact zbO _⟩)
 rw[<-FW]at h1;rw[<-JT]at h2;rw[<-Nn]at h3;rw[<-PZ]at h4;rw[<-FW,<-JT,<-Nn,<-PZ];have H1:=aA h1;have H2:=aA h2;have H3:=aA h3;have H4:=aA h4;obtain⟨w1,Hc⟩:=aF ((w.alloc (.cells #[.slice Av n1 cv,.slice Aa n2 ca,.slice Ap n3 cp,.slice Am n4 cm] 27)).alloc (.cells #[.slice none 0 0,.slice none 0 0,.slice none 0 0,.slice none 0 0] 27));have XN:Fr NoT w w1:=by rw[Hc];exact(aH.alloc _).alloc _
 have k1:Bk w1 w.heap.size 27 #[.slice Av n1 cv,.slice Aa n2 ca,.slice Ap n3 cp,.slice Am n4 cm]:=by
  rw[Hc];exact(Bk.new _ _ _).fr0 (aH.alloc _)
 have k2:Bk w1 (w.heap.size+1) 27 #[.slice none 0 0,.slice none 0 0,.slice none 0 0,.slice none 0 0]:=by
  rw[Hc];exact Bk.new_at _ _ _ (by simp)
 have Hw:w1.heap.size=w.heap.size+1+1:=by rw[Hc];simp
 have Hl:=aA XN;have K0:=aA k1;have JE:=aA k2;have Ge:=aA Hc;have zi:=aA Hw;have y0:=k1.cell 0;have y1:=k1.cell 1;have y2:=k1.cell 2;have y3:=k1.cell 3;have MD:=k1.lt;simp only[aD]at y0 y1 y2 y3;have Nd:=aA (λ(W:World)(hf:Fr NoT w1 W)=>(show w.heap.size < W.heap.size/\W.cell? ⟨w.heap.size,0,none⟩=some (.slice Av n1 cv)/\W.cell? ⟨w.heap.size,1,none⟩=some (.slice Aa n2 ca)/\W.cell? ⟨w.heap.size,2,none⟩=some (.slice Ap n3 cp)/\W.cell? ⟨w.heap.size,3,none⟩=some (.slice Am n4 cm)from
  ⟨aM MD hf.size,(hf.cell (p:=⟨w.heap.size,0,none⟩) MD id).trans y0,(hf.cell (p:=⟨w.heap.size,1,none⟩) MD id).trans y1,(hf.cell (p:=⟨w.heap.size,2,none⟩) MD id).trans y2,(hf.cell (p:=⟨w.heap.size,3,none⟩) MD id).trans y3⟩))
 clear hx hS FW JT Nn PZ Hc XN k1 k2 hX K7 h1 h2 h3 h4 Hw;go_enter Tryz.func16,Tryz.ntmps16;go_wp2_with fail;rw[<-Ge.out];refine zad (λW'=>w.heap.size < W'.heap.size/\W'.cell? ⟨w.heap.size,0,none⟩=some (.slice Av n1 cv)/\W'.cell? ⟨w.heap.size,1,none⟩=some (.slice Aa n2 ca)/\W'.cell? ⟨w.heap.size,2,none⟩=some (.slice Ap n3 cp)/\W'.cell? ⟨w.heap.size,3,none⟩=some (.slice Am n4 cm)) (λi=>decide (i < 12)) (by kernel_rfl) (Nd _ ((Fr.refl NoT w1).drew)) (λaC=>?_);clear y0 y1 y2 y3 MD;refine zaa 0 ?_;simp only[aB];refine zaa 3 ?_;simp only[aB];refine zaa 6 ?_;simp only[aB];refine zaa 9 ?_;simp only[aB];refine zbY 1 aC ?_;simp only[aB];refine zbY 4 aC ?_;simp only[aB];refine zbY 7 aC ?_;simp only[aB];refine zbY 10 aC ?_;simp only[aB];refine zab 2 rfl (by kernel_rfl) (λKK hK=>?_);go_simp;go_at_call 33;refine(H1 _ (Hl.trans ((Fr.refl NoT w1).drew))).mono ?_;rintro _ w2 ⟨B2,q2,rfl,Gq,hf⟩;have zj:=aA hf;have Hu:=aA (((Fr.refl NoT w1).drew :Fr NoT w1 _).trans hf);have NV:=aA Gq;have hs:=Nd _ Hu.out;clear aC Gq hf;dsimp only;refine hK _ _ (λ_ _=>hs) ?_;clear hK KK;have aC:=hs;clear hs;try simp only[aB]
 refine zab 5 rfl (by kernel_rfl) (λKK hK=>?_);go_simp;go_at_call 35;refine(H2 _ (Hl.trans (Hu.out))).mono ?_;rintro _ w3 ⟨B3,q3,rfl,Gq,hf⟩;have je:=aA hf;have Gi:=aA ((Hu.out:Fr NoT w1 _).trans hf);have US:=aA Gq;have hs:=Nd _ Gi.out;clear aC Gq hf;dsimp only;refine hK _ _ (λ_ _=>hs) ?_;clear hK KK;have aC:=hs;clear hs;try simp only[aB]
 refine zab 8 rfl (by kernel_rfl) (λKK hK=>?_);go_simp;go_at_call 37;refine(H4 _ (Hl.trans (Gi.out))).mono ?_;rintro _ w4 ⟨B4,q4,rfl,Gq,hf⟩;have XO:=aA hf;have GG:=aA ((Gi.out:Fr NoT w1 _).trans hf);have UT:=aA Gq;have hs:=Nd _ GG.out;clear aC Gq hf;dsimp only;refine hK _ _ (λ_ _=>hs) ?_;clear hK KK;have aC:=hs;clear hs;try simp only[aB]
 refine zab 11 rfl (by kernel_rfl) (λKK hK=>?_);go_simp;go_at_call 39;refine(H3 _ (Hl.trans (GG.out))).mono ?_;rintro _ w5 ⟨B5,q5,rfl,Gq,hf⟩;have UV:=aA hf;have Gk:=aA ((GG.out:Fr NoT w1 _).trans hf);have UU:=aA Gq;have hs:=Nd _ Gk.out;clear aC Gq hf;have Hz:=JE.fr0 Gk.out;have z0:=Hz.frozen 0;have z1:=Hz.frozen 1;have z2:=Hz.frozen 2;have z3:=Hz.frozen 3;have y0:=Hz.cell 0;have y1:=Hz.cell 1;have y2:=Hz.cell 2;have y3:=Hz.cell 3;have yl:=Hz.lt;simp only[aD]at y0 y1 y2 y3;have JF:=aA Hz;clear Hz;dsimp only;refine hK _ _ (λ_ _=>hs) ?_;clear hK KK;clear hs;try simp only[aB]
 refine zaa 12 ?_;simp only[aB];refine zab 13 rfl (by kernel_rfl) (λKK hK=>?_);go_simp;refine hK _ _ (λh=>absurd h (by decide)) ?_;clear hK KK;try simp only[aB]
 refine zae (by kernel_rfl) ?_;obtain⟨wf,Pe⟩:=aF ((((w5.setCell ⟨w.heap.size+1,0,none⟩ (.slice B2 n1 q2)).setCell ⟨w.heap.size+1,1,none⟩ (.slice B3 n2 q3)).setCell ⟨w.heap.size+1,2,none⟩ (.slice B5 n3 q5)).setCell ⟨w.heap.size+1,3,none⟩ (.slice B4 n4 q4));have hg:w.heap.size+1 < w1.heap.size:=by have:=zi.out;omega
 have PJ:Fr (λi=>i=w.heap.size+1) w5 wf:=by rw[Pe];exact aJ (aJ (aJ (aJ aH)))
 have JD:Fr NoT w wf:=znO (Hl.trans Gk.out) PJ λi hi e=>by have e:i=w.heap.size+1:=e;omega
 have XI:Bk wf (w.heap.size+1) 27 #[.slice B2 n1 q2,.slice B3 n2 q3,.slice B5 n3 q5,.slice B4 n4 q4]:=by
  have:=(((JF.set_ 0 (.slice B2 n1 q2)).set_ 1 (.slice B3 n2 q3)).set_ 2 (.slice B5 n3 q5)).set_ 3 (.slice B4 n4 q4);rw[Pe];simpa using this
 have Fk:∀(k:Nat)(W:World),w1.heap.size<=k->LowS k W w5->LowS k W wf:=λk W hk h=>by
  rw[Pe];exact(((h.set (by omega) _ _).set (by omega) _ _).set (by omega) _ _).set (by omega) _ _
 have Ke:=aA JD;have jb:=aA XI;have SF:=aA Fk;have XA:=aA Pe;rw[<-XA.out];clear Pe JD PJ XI Fk hg z0 z1 z2 z3 y0 y1 y2 y3 yl;go_wp2_with fail;have YB:w.heap.size<=w1.heap.size:=Hl.size;refine bodyPost_ret (results_cell_row (p:=2) (ty:=27) rfl _ _ (w.heap.size+1) 27 _ (0,0) _ rfl jb.out Tryz.underlying27 rfl zqD) rfl ⟨B2,B3,B5,B4,q2,q3,q5,q4,?_,⟨?_,?_,?_,?_⟩,Ke.out⟩
 ·unfold trV;rw[HM.1,HM.2.1,HM.2.2.1,HM.2.2.2]
 ·rw[HM.1];exact(SF w1.heap.size w2 (aL _) ((LowS.of je.out).step (XO.trans UV.out))).v YB NV.out
 ·rw[HM.2.1];exact(SF w2.heap.size w3 Hu.size (LowS.of (XO.trans UV.out))).a (aK YB Hu.size) US.out
 ·rw[HM.2.2.1];exact(SF w4.heap.size w5 GG.size (LowS.of (Fr.refl NoT w5))).p (aK YB GG.size) UU.out
 ·rw[HM.2.2.2];exact(SF w3.heap.size w4 Gi.size (LowS.of UV.out)).s (aK YB Gi.size) UT.out
