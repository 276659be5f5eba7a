/- Rows of numbers that are equal; when graphs are the same (pure). -/
import Derived.Test.YtmopichdofgndaaGreatDoorJgCk3
import Derived.Test.YtmopichdofgndaaGreatDoorShelf
set_option maxHeartbeats 3200000
set_option maxRecDepth 100000
namespace Go.Proofs.YtmopichdofgndaaGreatDoor
open Go.RowKit Go.Shelf
def zcK (a b:Ed):Bool:=(a.from_==b.from_)&&(a.to_==b.to_)&&(a.at_==b.at_)&&(a.kind==b.kind)&&(a.n==b.n)&&(a.cmp==b.cmp)&&zbf a.args b.args
def zd6 (q:Ed->Ed->Bool):List Ed->List Ed->Bool
 | [], []=>true
 |a::l,b::l'=>q a b&&zd6 q l l'
 |_,_=>false
theorem zgi {q}:∀ {xs ys:List Ed},xs.length≠ys.length->zd6 q xs ys=false
 | [], [],h=>absurd rfl h
 | [],_::_,_=>rfl
 |_::_, [],_=>rfl
 |_::r,_::r',h=>by
  have:r.length≠r'.length:=λe=>h (by simp[e]);simp[zd6,zgi this]
theorem zix {q}{xs ys:List Ed}{i:Nat}{a b:Ed}(ha:xs[i]?=some a)(hb:ys[i]?=some b):zd6 q (xs.drop i) (ys.drop i)=(q a b&&zd6 q (xs.drop (i+1)) (ys.drop (i+1))):=by
 obtain⟨hi,rfl⟩:=List.getElem?_eq_some_iff.1 ha;obtain⟨Qe,rfl⟩:=List.getElem?_eq_some_iff.1 hb;rw[List.drop_eq_getElem_cons hi,List.drop_eq_getElem_cons Qe];rfl
def zlQ (g o:Gr):Bool:=(g.vars==o.vars)&&(g.arrays==o.arrays)&&(g.nodes==o.nodes)&&(g.start==o.start)&&(g.last==o.last)&&zd6 zcK g.edges o.edges
def ziy (b:Bool)(W:World)(e:Ending)(w':World):Prop:=e= .returned (.bool b)/\∃q,w'=W.drewN q
theorem zeO {P:Program}{f:FuncId}{args:Array Value}{w:World}{n:Nat}{b:Bool}(h:Calls P f args (w.drewN n) (ziy b (w.drewN n))):
  Calls P f args (w.drewN n) λe w''=>e= .returned (.bool b)/\∃m,w''=w.drewN m:=
 h.mono λ_ _ ⟨he,m,hm⟩=>⟨he,n+m,by rw[hm,World.drewN_drewN]⟩
theorem zcd (B:Nat)(w:World)(q:Nat):Same B w (w.drewN q):=λ_ _=>rfl
theorem zky {l l':List Int}{k:Nat}{a b:Int}(ha:l[k]?=some a)(hb:l'[k]?=some b):(l.drop k==l'.drop k)=((a==b)&&(l.drop (k+1)==l'.drop (k+1))):=by
 obtain⟨h1,rfl⟩:=List.getElem?_eq_some_iff.1 ha;obtain⟨h2,rfl⟩:=List.getElem?_eq_some_iff.1 hb;rw[List.drop_eq_getElem_cons h1,List.drop_eq_getElem_cons h2];rfl
theorem zkz (l l':List Int)(A A':Option Addr)(c c':Nat)(w:World)(B:Nat)(hx:IsSl w B l A c)(hy:IsSl w B l' A' c'):
  Calls Tryz.prog 71 #[.slice A l.length c,.slice A' l'.length c'] w (ziy (l==l') w):=by
 have hl:=leq9 hx.1 hx.2.1;have Pn:=leq9 hy.1 hy.2.1;by_cases hlen:l.length=l'.length
 ·obtain⟨m,hm⟩:=nmq l'.length;have Lm:l.length=m:=hlen.trans hm.symm;rw[Lm,<-hm];rw[<-hm]at Pn;have HM:=hdq hm;have HL:=hdq Lm;have HX:=hdq hx;have HY:=hdq hy;clear hlen hm Lm hl hx hy;go_enter Tryz.func71,Tryz.ntmps71;go_wp2;go_loopw [5] (λi wr=>∃k:Nat,k<=m/\i= .int .i64 k/\Hid (∃q,wr=w.drewN q)/\Hid ((l==l')=(l.drop k==l'.drop k))) (λi _=>m - (intOf i).toNat);case atStart=>exact⟨0,Nat.zero_le _,rfl,⟨0,rfl⟩,rfl⟩
  case round=>
   obtain⟨k,hk,rfl,hq,Ha⟩:=hrel;by_cases Hr:k < m
   ·obtain⟨a,ha⟩:∃a,l[k]?=some a:=⟨_,List.getElem?_eq_getElem (by rw[HL.out];exact Hr)⟩;obtain⟨b,hb⟩:∃b,l'[k]?=some b:=⟨_,List.getElem?_eq_getElem (by rw[<-HM.out];exact Hr)⟩;obtain⟨g,o,rfl,Hd⟩:=HX.2.2 (by rw[HL.out];omega);obtain⟨g',o',rfl,Fp⟩:=HY.2.2 (by rw[<-HM.out];omega);have hs:Same B w wr:=by obtain⟨q,hq⟩:=hq.out;rw[hq];exact zcd _ _ _
    have c0:=((Hd.keep hs).2 k a ha).1;have d0:=((Fp.keep hs).2 k b hb).1;have Hq:=hdq (Ha.trans (zky ha hb));clear ha hb Hd Fp hs Ha;have Hl:((k:Nat):Int) < (m:Int):=by omega
    have Fb:(0:Int)<=((k:Nat):Int):=by omega
    go_wp2_with fail
    go_quiet (fail)
    cases hp:a==b
    ·have HF:=hdq (show(l==l')=false from by rw[Hq.out,hp];rfl);have hn:(a != b)=true:=by rw[bne,hp];rfl
     clear hp Hq;go_wp2_with fail;go_ret;obtain⟨q,hq⟩:=hq.out;exact⟨by rw[HF.out];rfl,_,by rw[hq,World.drewN_drewN]⟩
    ·have HN:=hdq (show(l==l')=(l.drop (k+1)==l'.drop (k+1))from by rw[Hq.out,hp];rfl);have hn:(a != b)=false:=by rw[bne,hp];rfl
     clear hp Hq;go_wp2_with fail;go_roundw;case rel=>exact⟨k+1,by omega,by go_num,by obtain⟨q,hq⟩:=hq.out;exact⟨_,by rw[hq,World.drewN_drewN]⟩,HN⟩
     case measure=>simp[intOf];omega
   ·have HF:=hdq (show(l==l')=true from by rw[Ha.out,List.drop_eq_nil_of_le (by rw[HL.out];omega),List.drop_eq_nil_of_le (by rw[<-HM.out];omega)];rfl);clear Ha;go_wp2_with fail;go_ret;exact⟨by rw[HF.out];rfl,hq.out⟩
 ·have HF:=hdq (show(l==l')=false from by rw[beq_eq_false_iff_ne];exact λe=>hlen (by rw[e]));have GU:((l.length:Int)==(l'.length:Int))=false:=by simp;omega
  have NK:((l.length:Int) != (l'.length:Int))=true:=by simp;omega
  clear hx hy;go_enter Tryz.func71,Tryz.ntmps71;go_wp2_with fail;go_ret;exact⟨by rw[HF.out];rfl,0,rfl⟩
def zkA (B:Nat)(xs ys:Exs):Prop:=
 ∀(i:Nat)(k:Int)(nm:ByteArray)(n:Int)(args:Exs)(at_:Int)(rest:Exs)(k':Int)(nm':ByteArray)(n':Int)(args':Exs)(at':Int)(rest':Exs),
  Exs.drop i xs= .cons k nm n args at_ rest->Exs.drop i ys= .cons k' nm' n' args' at' rest'->
  ∀(W:World)(A A':Option Addr)(c c':Nat),ExSl W B args A c->ExSl W B args' A' c'->
   Calls Tryz.prog 72 #[.slice A args.len c,.slice A' args'.len c'] W (ziy (zbf args args') W)
theorem zgj {xs ys:Exs}{i:Nat}{k nm n args at_ rest k' nm' n' args' at' rest'}(hd:Exs.drop i xs= .cons k nm n args at_ rest)(Fj:Exs.drop i ys= .cons k' nm' n' args' at' rest'):
  zbf (Exs.drop i xs) (Exs.drop i ys)=((k==k')&&(n==n')&&(nm.toList==nm'.toList)&&(at_==at')&&zbf args args'&&zbf (Exs.drop (i+1) xs) (Exs.drop (i+1) ys)):=by
 rw[Exs.drop_succ i xs hd,Exs.drop_succ i ys Fj,hd,Fj];simp only[zbf]
theorem zd7:∀ {xs ys:Exs},xs.len≠ys.len->zbf xs ys=false
 | .nil,.nil,h=>absurd rfl h
 | .nil,.cons ..,_=>rfl
 | .cons ..,.nil,_=>rfl
 | .cons _ _ _ _ _ r,.cons _ _ _ _ _ r',h=>by
  have:r.len≠r'.len:=λe=>h (by simp[Exs.len,e]);simp[zbf,zd7 this]
theorem zeP (xs ys:Exs)(A A':Option Addr)(c c':Nat)(w:World)(B:Nat)(hx:ExSl w B xs A c)(hy:ExSl w B ys A' c')(Ho:zkA B xs ys):
  Calls Tryz.prog 72 #[.slice A xs.len c,.slice A' ys.len c'] w (ziy (zbf xs ys) w):=by
 have hl:xs.len<=9223372036854775807:=leq9 hx.1 hx.2.1;have Pn:ys.len<=9223372036854775807:=leq9 hy.1 hy.2.1;have HA:=hdq Ho;clear Ho;by_cases hlen:xs.len=ys.len
 ·obtain⟨m,hm⟩:=nmq ys.len;have Lm:xs.len=m:=hlen.trans hm.symm;rw[Lm,<-hm];rw[<-hm]at Pn;have HM:=hdq hm;have HL:=hdq Lm;have HX:=hdq hx;have HY:=hdq hy;clear hlen hm Lm hl hx hy;go_enter Tryz.func72,Tryz.ntmps72;go_wp2;go_loopw [5] (λi wr=>∃k:Nat,k<=m/\i= .int .i64 k/\Hid (∃q,wr=w.drewN q)/\Hid (zbf xs ys=zbf (Exs.drop k xs) (Exs.drop k ys))) (λi _=>m - (intOf i).toNat);case atStart=>exact⟨0,Nat.zero_le _,rfl,⟨0,rfl⟩,rfl⟩
  case round=>
   obtain⟨k,hk,rfl,hq,Ha⟩:=hrel;by_cases Hr:k < m
   ·obtain⟨a0,a1,a2,a3,a4,a5,hd⟩:=Exs.drop_cons (show k < xs.len from by rw[HL.out];exact Hr);obtain⟨b0,b1,b2,b3,b4,b5,Fj⟩:=Exs.drop_cons (show k < ys.len from by rw[<-HM.out];exact Hr);obtain⟨b,o,rfl,Hd⟩:=HX.2.2 (by rw[HL.out];omega);obtain⟨b',o',rfl,Fp⟩:=HY.2.2 (by rw[<-HM.out];omega);have hs:Same B w wr:=by obtain⟨q,hq⟩:=hq.out;rw[hq];exact zcd _ _ _
    obtain⟨ze,c0,c1,c2,⟨A1,cc,c3,Fh⟩,c4,_⟩:=(Hd.keep hs).at_ hd;obtain⟨gh,d0,d1,d2,⟨A2,cc',d3,gi⟩,d4,_⟩:=(Fp.keep hs).at_ Fj;obtain⟨r,hr⟩:=nmq (zbf a3 b3);have HC:=hdq (λq=>HA k a0 a1 a2 a3 a4 a5 b0 b1 b2 b3 b4 b5 hd Fj (wr.drewN q) A1 A2 cc cc' (Fh.keep (zcd B wr q)) (gi.keep (zcd B wr q)));have Hq:=hdq (Ha.trans (zgj hd Fj));rw[<-hr]at HC Hq;have Hl:((k:Nat):Int) < (m:Int):=by omega
    have Fb:(0:Int)<=((k:Nat):Int):=by omega
    clear hd Fj Hd Fp hs Ha hr Fh gi;cases h0:a0==b0
    ·have HF:=hdq (show zbf xs ys=false from by rw[Hq.out,h0];simp);have Z9:(a0 != b0)=true:=by rw[bne,h0];rfl
     clear Hq;go_wp2_with fail
     go_quiet (fail)
     go_wp2_with fail;go_ret;obtain⟨q,hq⟩:=hq.out;exact⟨by rw[HF.out];rfl,_,by rw[hq,World.drewN_drewN]⟩
    have Z9:(a0 != b0)=false:=by rw[bne,h0];rfl
    cases h1:a2==b2
    ·have HF:=hdq (show zbf xs ys=false from by rw[Hq.out,h1];simp);have Gk:(a2 != b2)=true:=by rw[bne,h1];rfl
     clear Hq;go_wp2_with fail
     go_quiet (fail)
     go_wp2_with fail;go_ret;obtain⟨q,hq⟩:=hq.out;exact⟨by rw[HF.out];rfl,_,by rw[hq,World.drewN_drewN]⟩
    have Gk:(a2 != b2)=false:=by rw[bne,h1];rfl
    cases h2:a1.toList==b1.toList
    ·have HF:=hdq (show zbf xs ys=false from by rw[Hq.out,h2];simp);have Gu:(a1.toList != b1.toList)=true:=by rw[bne,h2];rfl
     clear Hq;go_wp2_with fail
     go_quiet (fail)
     go_wp2_with fail;go_ret;obtain⟨q,hq⟩:=hq.out;exact⟨by rw[HF.out];rfl,_,by rw[hq,World.drewN_drewN]⟩
    have Gu:(a1.toList != b1.toList)=false:=by rw[bne,h2];rfl
    cases h3:a4==b4
    ·have HF:=hdq (show zbf xs ys=false from by rw[Hq.out,h3];simp);have GJ:(a4 != b4)=true:=by rw[bne,h3];rfl
     clear Hq;go_wp2_with fail
     go_quiet (fail)
     go_wp2_with fail;go_ret;obtain⟨q,hq⟩:=hq.out;exact⟨by rw[HF.out];rfl,_,by rw[hq,World.drewN_drewN]⟩
    have GJ:(a4 != b4)=false:=by rw[bne,h3];rfl
    cases r
    ·have HF:=hdq (show zbf xs ys=false from by rw[Hq.out];simp);clear Hq;go_wp2_with fail
     go_quiet ((go_at_call 72;exact zeO (HC _)))
     go_wp2_with fail;go_ret;obtain⟨q,hq⟩:=hq.out;exact⟨by rw[HF.out];rfl,_,by rw[hq,World.drewN_drewN]⟩
    ·have HN:=hdq (show zbf xs ys=zbf (Exs.drop (k+1) xs) (Exs.drop (k+1) ys)from by rw[Hq.out];simp[h0,h1,h2,h3]);clear Hq;go_wp2_with fail
     go_quiet ((go_at_call 72;exact zeO (HC _)))
     go_wp2_with fail;go_roundw;case rel=>exact⟨k+1,by omega,by go_num,by obtain⟨q,hq⟩:=hq.out;exact⟨_,by rw[hq,World.drewN_drewN]⟩,HN⟩
     case measure=>simp[intOf];omega
   ·have HF:=hdq (show zbf xs ys=true from by rw[Ha.out,Exs.drop_nil (by rw[HL.out];omega),Exs.drop_nil (by rw[<-HM.out];omega)];rfl);clear Ha;go_wp2_with fail;go_ret;exact⟨by rw[HF.out];rfl,hq.out⟩
 ·have HF:=hdq (zd7 hlen);have GU:((xs.len:Int)==(ys.len:Int))=false:=by simp;omega
  have NK:((xs.len:Int) != (ys.len:Int))=true:=by simp;omega
  clear hx hy;go_enter Tryz.func72,Tryz.ntmps72;go_wp2_with fail;go_ret;exact⟨by rw[HF.out];rfl,0,rfl⟩
theorem zcZ (B:Nat):∀xs ys:Exs,zkA B xs ys
 | .nil,_=>λi _ _ _ _ _ _ _ _ _ _ _ _ hd=>by cases i<;>simp[Exs.drop]at hd
 | .cons ..,.nil =>λi _ _ _ _ _ _ _ _ _ _ _ _ _ hd=>by cases i<;>simp[Exs.drop]at hd
 | .cons k nm n args at_ rest,.cons k' nm' n' args' at' rest'=>λi _ _ _ _ _ _ _ _ _ _ _ _ hd Fj W A A' c c' hs Tt=>by
  cases i with
  |zero=>
   simp only[Exs.drop]at hd Fj;injection hd with e1 e2 e3 e4 e5 e6;injection Fj with f1 f2 f3 f4 f5 f6;subst e1 e2 e3 e4 e5 e6 f1 f2 f3 f4 f5 f6;exact zeP args args' A A' c c' W B hs Tt (zcZ B args args')
  |succ i=>
   simp only[Exs.drop]at hd Fj;exact zcZ B rest rest' i _ _ _ _ _ _ _ _ _ _ _ _ hd Fj W A A' c c' hs Tt
theorem ziz (xs ys:Exs)(A A':Option Addr)(c c':Nat)(w:World)(B:Nat)(hx:ExSl w B xs A c)(hy:ExSl w B ys A' c'):
  Calls Tryz.prog 72 #[.slice A xs.len c,.slice A' ys.len c'] w (ziy (zbf xs ys) w):=zeP xs ys A A' c c' w B hx hy (zcZ B xs ys)
theorem zkB (g o:Gr)(Aa Ae Aa' Ae':Option Addr)(ca ce ca' ce' B:Nat)(w:World)(hB:B<=w.heap.size)(hg:GrSl w B g Aa ca Ae ce)(ho:GrSl w B o Aa' ca' Ae' ce'):
  Calls Tryz.prog 21 #[grV g.vars Aa g.arrays.length ca g.nodes g.start g.last Ae g.edges.length ce,grV o.vars Aa' o.arrays.length ca' o.nodes o.start o.last Ae' o.edges.length ce'] w (zg2 (zlQ g o) w):=by
 obtain⟨v,ar,nd,st,la,xs⟩:=g;obtain⟨v',ar',nd',st',la',ys⟩:=o;have hl:=leq9 hg.edges.1 hg.edges.2.1;have Pn:=leq9 ho.edges.1 ho.edges.2.1;have HX:=hdq hg.edges;have HY:=hdq ho.edges;have vg:∀W,Below w.heap.size w W->Calls Tryz.prog 71 #[.slice Aa ar.length ca,.slice Aa' ar'.length ca'] W (ziy (ar==ar') W):=λW h=>
  zkz ar ar' Aa Aa' ca ca' W B (hg.arrays.keep (Same.of h hB)) (ho.arrays.keep (Same.of h hB))
 clear hg ho;unfold zlQ grV;simp only at HX HY hl Pn ⊢;obtain⟨na,VW⟩:=nmq ar.length;obtain⟨na',Xs⟩:=nmq ar'.length;obtain⟨m,hm⟩:=nmq xs.length;obtain⟨m',SN⟩:=nmq ys.length;obtain⟨ia,XH⟩:=nmq ((ar==ar'));obtain⟨r,hr⟩:=nmq (zd6 zcK xs ys);rw[<-VW,<-Xs,<-XH]at vg;rw[<-VW,<-Xs,<-XH,<-hm,<-SN,<-hr];rw[<-hm]at hl;rw[<-SN]at Pn;have HI:=hdq vg;have HM:=hdq hm;have jg:=hdq SN;have HR:=hdq hr;clear vg VW Xs hm SN XH hr;have LI:∀c0 c1:Array Value,Below w.heap.size w ((w.alloc (.cells c0 53)).alloc (.cells c1 53)):=λ_ _=>((Below.refl _ _).alloc (lrq _) _).alloc (by simp) _;have KP:=hdq LI;clear LI;cases h1:v==v'
 ·have XI:(v != v')=true:=by rw[bne,h1];rfl
  go_enter Tryz.func21,Tryz.ntmps21;go_wp2_with (go_at_call 71;refine(HI _ (KP _ _)).mono ?_;rintro _ _ ⟨rfl,q,rfl⟩);go_ret;exact⟨by simp,by first|exact KP _ _|exact zau (KP _ _) _⟩
 have XI:(v != v')=false:=by rw[bne,h1];rfl
 cases ia
 ·go_enter Tryz.func21,Tryz.ntmps21;go_wp2_with (go_at_call 71;refine(HI _ (KP _ _)).mono ?_;rintro _ _ ⟨rfl,q,rfl⟩);go_ret;exact⟨by simp,by first|exact KP _ _|exact zau (KP _ _) _⟩
 cases h3:nd==nd'
 ·have YO:(nd != nd')=true:=by rw[bne,h3];rfl
  go_enter Tryz.func21,Tryz.ntmps21;go_wp2_with (go_at_call 71;refine(HI _ (KP _ _)).mono ?_;rintro _ _ ⟨rfl,q,rfl⟩);go_ret;exact⟨by simp,by first|exact KP _ _|exact zau (KP _ _) _⟩
 have YO:(nd != nd')=false:=by rw[bne,h3];rfl
 cases h4:st==st'
 ·have YP:(st != st')=true:=by rw[bne,h4];rfl
  go_enter Tryz.func21,Tryz.ntmps21;go_wp2_with (go_at_call 71;refine(HI _ (KP _ _)).mono ?_;rintro _ _ ⟨rfl,q,rfl⟩);go_ret;exact⟨by simp,by first|exact KP _ _|exact zau (KP _ _) _⟩
 have YP:(st != st')=false:=by rw[bne,h4];rfl
 cases h5:la==la'
 ·have uD:(la != la')=true:=by rw[bne,h5];rfl
  go_enter Tryz.func21,Tryz.ntmps21;go_wp2_with (go_at_call 71;refine(HI _ (KP _ _)).mono ?_;rintro _ _ ⟨rfl,q,rfl⟩);go_ret;exact⟨by simp,by first|exact KP _ _|exact zau (KP _ _) _⟩
 have uD:(la != la')=false:=by rw[bne,h5];rfl
 by_cases hlen:m=m'
 case neg=>
  have hn:((m:Int)==(m':Int))=false:=by simp;omega
  have UT:((m:Int) != (m':Int))=true:=by simp;omega
  have MZ:r=false:=by rw[HR.out];exact zgi (by rw[<-HM.out,<-jg.out];exact hlen)
  subst MZ;go_enter Tryz.func21,Tryz.ntmps21;go_wp2_with (go_at_call 71;refine(HI _ (KP _ _)).mono ?_;rintro _ _ ⟨rfl,q,rfl⟩);go_ret;exact⟨by simp,by first|exact KP _ _|exact zau (KP _ _) _⟩
 subst hlen;go_enter Tryz.func21,Tryz.ntmps21;go_wp2_with (go_at_call 71;refine(HI _ (KP _ _)).mono ?_;rintro _ _ ⟨rfl,q,rfl⟩);go_loopw [5] (λi wr=>∃k:Nat,k<=m/\i= .int .i64 k/\Hid (Below w.heap.size w wr/\Below (w.heap.size+2) ((w.alloc (.cells #[.int .i64 v,.slice Aa na ca,.int .i64 nd,.int .i64 st,.int .i64 la,.slice Ae m ce] 53)).alloc (.cells #[.int .i64 v',.slice Aa' na' ca',.int .i64 nd',.int .i64 st',.int .i64 la',.slice Ae' m ce'] 53)) wr)/\Hid (r=zd6 zcK (xs.drop k) (ys.drop k))) (λi _=>m - (intOf i).toNat);case atStart=>exact⟨0,Nat.zero_le _,rfl,⟨zau (KP _ _) _,zau ((Below.refl ((w.alloc (.cells #[.int .i64 v,.slice Aa na ca,.int .i64 nd,.int .i64 st,.int .i64 la,.slice Ae m ce] 53)).alloc (.cells #[.int .i64 v',.slice Aa' na' ca',.int .i64 nd',.int .i64 st',.int .i64 la',.slice Ae' m ce'] 53)).heap.size _).mono (by simp)) _⟩,HR.out⟩
 case round=>
  obtain⟨k,hk,rfl,UF,Ha⟩:=hrel;obtain⟨Gi,FL⟩:=UF.out;have g5:=(FL.cell (p:=⟨w.heap.size,5,none⟩) (by simp)).trans (zlS w _ _ _ _ 5).1;have j5:=(FL.cell (p:=⟨w.heap.size+1,5,none⟩) (by simp)).trans (zlS w _ _ _ _ 5).2;simp only[List.getElem?_toArray,List.getElem?_cons_succ,List.getElem?_cons_zero]at g5 j5;by_cases Hr:k < m
  ·obtain⟨a,ha⟩:∃e,xs[k]?=some e:=⟨_,List.getElem?_eq_getElem (by rw[<-HM.out];exact Hr)⟩;obtain⟨b,hb⟩:∃e,ys[k]?=some e:=⟨_,List.getElem?_eq_getElem (by rw[<-jg.out];exact Hr)⟩;obtain⟨x,o,rfl,Hd⟩:=HX.2.2 (by rw[<-HM.out];omega);obtain⟨x',o',rfl,Fp⟩:=HY.2.2 (by rw[<-jg.out];omega);have jh:=leq9 hB Gi.size;obtain⟨ze,c0,c1,c2,c3,c4,⟨A1,k1,c5,s1⟩,c6,_⟩:=(Hd.keep (Same.of Gi hB)).at_ ha;obtain⟨gh,d0,d1,d2,d3,d4,⟨A2,k2,d5,s2⟩,d6,_⟩:=(Fp.keep (Same.of Gi hB)).at_ hb;have Gf:x < wr.heap.size:=ltq ze jh;have Qv:x' < wr.heap.size:=ltq gh jh;have yn:w.heap.size+1 < wr.heap.size:=by have:=FL.size;simp at this;omega
   have uE:w.heap.size < wr.heap.size:=by omega
   have Hl:(k:Int) < (m:Int):=by omega
   have Fb:(0:Int)<=(k:Int):=by omega
   have Hj:=hdq (Ha.trans (zix (q:=zcK) ha hb));have HS:=hdq (λ(W:World)(h:Below wr.heap.size wr W)=>ziz a.args b.args A1 A2 k1 k2 W B (s1.keep (Same.of h jh)) (s2.keep (Same.of h jh)));have Hu:=hdq Gi;have Jy:=hdq FL;clear ha hb Hd Fp s1 s2 Gi FL Ha;obtain⟨t,ht⟩:=nmq (zbf a.args b.args);have HT:=hdq (show zcK a b=((a.from_==b.from_)&&(a.to_==b.to_)&&(a.at_==b.at_)&&(a.kind==b.kind)&&(a.n==b.n)&&(a.cmp==b.cmp)&&t)from by rw[ht];rfl);rw[<-ht]at HS;clear ht
   go_upto_region 6 with fail
   go_cut [6,7] (λs6 s7 wx=>∃P Q:Nat,s6= .pointer (some ⟨P,0,none⟩)/\s7= .pointer (some ⟨Q,0,none⟩)/\Below wr.heap.size wr wx/\P < wx.heap.size/\Q < wx.heap.size/\wx.cell? ⟨P,0,none⟩=some (.int .i64 a.from_)/\wx.cell? ⟨P,1,none⟩=some (.int .i64 a.to_)/\wx.cell? ⟨P,2,none⟩=some (.int .u8 a.kind)/\wx.cell? ⟨P,3,none⟩=some (.int .i64 a.n)/\wx.cell? ⟨P,4,none⟩=some (.int .u8 a.cmp)/\wx.cell? ⟨P,5,none⟩=some (.slice A1 a.args.len k1)/\wx.cell? ⟨P,6,none⟩=some (.int .i64 a.at_)/\wx.cell? ⟨Q,0,none⟩=some (.int .i64 b.from_)/\wx.cell? ⟨Q,1,none⟩=some (.int .i64 b.to_)/\wx.cell? ⟨Q,2,none⟩=some (.int .u8 b.kind)/\wx.cell? ⟨Q,3,none⟩=some (.int .i64 b.n)/\wx.cell? ⟨Q,4,none⟩=some (.int .u8 b.cmp)/\wx.cell? ⟨Q,5,none⟩=some (.slice A2 b.args.len k2)/\wx.cell? ⟨Q,6,none⟩=some (.int .i64 b.at_));case first=>
    go_region
    all_goals
     go_wp2_with fail
     go_meet
     refine⟨_,_,rfl,rfl,(((Below.refl _ _).alloc (lrq _) _).alloc (by simp) _).drew,by simp<;>omega,by simp<;>omega,?_⟩;simp
   case rest=>
    obtain⟨P,Q,rfl,rfl,GZ,hP,hQ,p0,p1,p2,p3,p4,p5,p6,q0,q1,q2,q3,q4,q5,q6⟩:=hcut;have GC:=hdq GZ;clear GZ c0 c1 c2 c3 c4 c5 c6 d0 d1 d2 d3 d4 d5 d6 g5 j5;cases e0:a.from_==b.from_
    ·have e0':(a.from_ != b.from_)=true:=by rw[bne,e0];rfl
     have HF:=hdq (show r=false from by rw[Hj.out,HT.out,e0];simp);go_wp2_with (go_at_call 72;refine(HS _ GC.out).mono ?_;rintro _ _ ⟨rfl,q,rfl⟩);go_ret;exact⟨by rw[HF.out];simp,Hu.trans (GC.mono Hu.size)⟩
    have e0':(a.from_ != b.from_)=false:=by rw[bne,e0];rfl
    cases e1:a.to_==b.to_
    ·have e1':(a.to_ != b.to_)=true:=by rw[bne,e1];rfl
     have HF:=hdq (show r=false from by rw[Hj.out,HT.out,e1];simp);go_wp2_with (go_at_call 72;refine(HS _ GC.out).mono ?_;rintro _ _ ⟨rfl,q,rfl⟩);go_ret;exact⟨by rw[HF.out];simp,Hu.trans (GC.mono Hu.size)⟩
    have e1':(a.to_ != b.to_)=false:=by rw[bne,e1];rfl
    cases e2:a.at_==b.at_
    ·have e2':(a.at_ != b.at_)=true:=by rw[bne,e2];rfl
     have HF:=hdq (show r=false from by rw[Hj.out,HT.out,e2];simp);go_wp2_with (go_at_call 72;refine(HS _ GC.out).mono ?_;rintro _ _ ⟨rfl,q,rfl⟩);go_ret;exact⟨by rw[HF.out];simp,Hu.trans (GC.mono Hu.size)⟩
    have e2':(a.at_ != b.at_)=false:=by rw[bne,e2];rfl
    cases e3:a.kind==b.kind
    ·have e3':(a.kind != b.kind)=true:=by rw[bne,e3];rfl
     have HF:=hdq (show r=false from by rw[Hj.out,HT.out,e3];simp);go_wp2_with (go_at_call 72;refine(HS _ GC.out).mono ?_;rintro _ _ ⟨rfl,q,rfl⟩);go_ret;exact⟨by rw[HF.out];simp,Hu.trans (GC.mono Hu.size)⟩
    have e3':(a.kind != b.kind)=false:=by rw[bne,e3];rfl
    cases e4:a.n==b.n
    ·have e4':(a.n != b.n)=true:=by rw[bne,e4];rfl
     have HF:=hdq (show r=false from by rw[Hj.out,HT.out,e4];simp);go_wp2_with (go_at_call 72;refine(HS _ GC.out).mono ?_;rintro _ _ ⟨rfl,q,rfl⟩);go_ret;exact⟨by rw[HF.out];simp,Hu.trans (GC.mono Hu.size)⟩
    have e4':(a.n != b.n)=false:=by rw[bne,e4];rfl
    cases e5:a.cmp==b.cmp
    ·have e5':(a.cmp != b.cmp)=true:=by rw[bne,e5];rfl
     have HF:=hdq (show r=false from by rw[Hj.out,HT.out,e5];simp);go_wp2_with (go_at_call 72;refine(HS _ GC.out).mono ?_;rintro _ _ ⟨rfl,q,rfl⟩);go_ret;exact⟨by rw[HF.out];simp,Hu.trans (GC.mono Hu.size)⟩
    have e5':(a.cmp != b.cmp)=false:=by rw[bne,e5];rfl
    cases t
    ·have HF:=hdq (show r=false from by rw[Hj.out,HT.out];simp);go_wp2_with (go_at_call 72;refine(HS _ GC.out).mono ?_;rintro _ _ ⟨rfl,q,rfl⟩);go_ret;exact⟨by rw[HF.out];simp,zau (Hu.trans (GC.mono Hu.size)) _⟩
    ·have HN:=hdq (show r=zd6 zcK (xs.drop (k+1)) (ys.drop (k+1))from by rw[Hj.out,HT.out,e0,e1,e2,e3,e4,e5];simp);go_wp2_with (go_at_call 72;refine(HS _ GC.out).mono ?_;rintro _ _ ⟨rfl,q,rfl⟩);go_roundw;case rel=>exact⟨k+1,by omega,by go_num,⟨zau (Hu.trans (GC.mono Hu.size)) _,zau (Jy.trans (GC.mono yn)) _⟩,HN⟩
     case measure=>simp[intOf];omega
  ·have HF:=hdq (show r=true from by rw[Ha.out,List.drop_eq_nil_of_le (by rw[<-HM.out];omega),List.drop_eq_nil_of_le (by rw[<-jg.out];omega)];rfl);clear Ha FL;go_wp2_with fail;go_ret;exact⟨by rw[HF.out];simp,Gi⟩
