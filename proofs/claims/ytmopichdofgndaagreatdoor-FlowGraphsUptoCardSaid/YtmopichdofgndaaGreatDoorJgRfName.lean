/- ref13's work: a name's number. -/
import Derived.Test.YtmopichdofgndaaGreatDoorJnFg6
import Derived.Test.YtmopichdofgndaaGreatDoorJgR2Ex
set_option linter.all false
set_option maxHeartbeats 3200000
set_option maxRecDepth 100000
namespace Go.Proofs.YtmopichdofgndaaGreatDoor
open Go.RowKit Go.Shelf
def zbw:List (List UInt8)->List UInt8->Option Nat
 | [],_=>none
 |x::r,t=>if x=t then some 0 else(zbw r t).map (· +1)
def zav (l:List (List UInt8)):NoN:=λt=>(zbw l t).map λ(n:Nat)=>(n:Int)
theorem zd1:∀ {l:List (List UInt8)} {k:Nat} {t:List UInt8},l[k]?=some t->(∀(j:Nat)(s:List UInt8),j < k->l[j]?=some s->s≠t)->zbw l t=some k
 | [],k,t,h,_=>by simp at h
 |x::r,0,t,h,_=>by
  simp only[List.getElem?_cons_zero,Option.some.injEq]at h;simp[zbw,h]
 |x::r,k+1,t,h,hb=>by
  simp only[List.getElem?_cons_succ]at h;have h0:=hb 0 x (by omega) rfl;simp only[zbw,if_neg h0,zd1 h (λj s hj hs=>hb (j+1) s (by omega) (by simpa using hs))];rfl
theorem zd2:∀ {l:List (List UInt8)} {t:List UInt8},(∀(j:Nat)(s:List UInt8),l[j]?=some s->s≠t)->zbw l t=none
 | [],_,_=>rfl
 |x::r,t,hb=>by
  have h0:=hb 0 x rfl;simp only[zbw,if_neg h0,zd2 (l:=r) (λj s (hs:r[j]?=some s)=>hb (j+1) s (by simpa using hs))];rfl
theorem zd3:∀(l:List (List UInt8))(x t:List UInt8),zbw (l++ [x]) t=(zbw l t).or (if x=t then some l.length else none)
 | [],x,t=>by simp only[List.nil_append,zbw];split<;>rfl
 |y::r,x,t=>by
  simp only[List.cons_append,zbw,zd3 r x t];by_cases h:y=t
  ·simp[h]
  ·simp only[if_neg h];cases zbw r t with
   |some n=>rfl
   |none=>
    simp only[Option.none_or,Option.map_none];split<;>simp
theorem zeM:∀ {l:List (List UInt8)} {t:List UInt8},t∉l->zbw l t=none
 | [],_,_=>rfl
 |x::r,t,h=>by
  have h0:¬x=t:=λe=>h (by rw[e];exact List.mem_cons_self);have h1:t∉r:=λe=>h (List.mem_cons_of_mem _ e);simp only[zbw,if_neg h0,zeM h1];rfl
theorem zbQ (l:List (List UInt8))(h:l.Nodup):zav l=zaS l:=by
 have key:∀r:List (List UInt8),r.reverse.Nodup->∀t,zav r.reverse t=zaS r.reverse t:=by
  intro r
  induction r with
  |nil=>intro _ t;rfl
  |cons x q ih=>
   intro hn t;rw[List.reverse_cons]at hn ⊢;have hq:q.reverse.Nodup:=(List.nodup_append.1 hn).1;rw[zeL,<-ih hq t];unfold zav;rw[zd3];by_cases e:t=x
   ·subst e;have hm:t∉q.reverse:=λhm=>(List.nodup_append.1 hn).2.2 t hm t (by simp) rfl;rw[zeM hm,if_pos rfl,if_pos rfl];rfl
   ·rw[if_neg e,if_neg (λe2=>e e2.symm),Option.or_none]
 funext t
 have:=key l.reverse (by rw[List.reverse_reverse];exact h) t;rw[List.reverse_reverse]at this;exact this
structure RfN (w:World)(b:Nat)(S:Nat->Prop)(Z:Prop)(vs:List Va)(ars:List Arr)(Av Aa:Option Addr)(cv ca:Nat):Prop where
 c0:w.cell? ⟨b,0,none⟩=some (.slice Av vs.length cv)
 c1:w.cell? ⟨b,1,none⟩=some (.slice Aa ars.length ca)
 lt:b < w.heap.size
 lo:∀x,S x->x < w.heap.size
 vs:SlR (VaR w S Z vs) vs.length 24 Av cv
 ars:SlR (ArR w S Z ars) ars.length 32 Aa ca
theorem RfN.fr {T:Nat->Prop}{w w':World}{b:Nat}{S:Nat->Prop}{Z:Prop}{vs:List Va}{ars:List Arr}{Av Aa:Option Addr}{cv ca:Nat}(h:RfN w b S Z vs ars Av Aa cv ca)(hf:Fr T w w')(hb:¬T b)(hS:∀x,S x->¬T x):RfN w' b S Z vs ars Av Aa cv ca:=
 have hs:SameS S w w':=hf.same λx hx=>⟨h.lo x hx,hS x hx⟩
 ⟨(hf.cell h.lt hb).trans h.c0,(hf.cell h.lt hb).trans h.c1,ltq h.lt hf.size,λx hx=>ltq (h.lo x hx) hf.size,h.vs.imp λ_ _=>VaR.keep hs,h.ars.imp λ_ _=>ArR.keep hs⟩
theorem RfN.fr0 {w w':World}{b:Nat}{S:Nat->Prop}{Z:Prop}{vs:List Va}{ars:List Arr}{Av Aa:Option Addr}{cv ca:Nat}(h:RfN w b S Z vs ars Av Aa cv ca)(hf:Fr NoT w w'):RfN w' b S Z vs ars Av Aa cv ca:=h.fr hf id λ_ _=>id
def nmsV (vs:List Va):List (List UInt8):=vs.map (·.nm.data.toList)
def nmsA (ars:List Arr):List (List UInt8):=ars.map (·.nm.data.toList)
theorem zcl {w:World}{b:Nat}{S:Nat->Prop}{Z:Prop}{vs:List Va}{ars:List Arr}{Av Aa:Option Addr}{cv ca:Nat}(h:RfN w b S Z vs ars Av Aa cv ca)(nm:ByteArray):
  Calls Tryz.prog 187 #[.pointer (some ⟨b,0,none⟩),.string nm] w λe w'=>e= .returned (.int .i64 ((zav (nmsV vs)).get nm))/\w=w':=by
 have hl:vs.length<=9223372036854775807:=leq9 h.vs.1 h.vs.2.1.1;have c0:=h.c0;have cl:=h.lt;obtain⟨m,hm⟩:=nmq vs.length;rw[<-hm]at hl c0;have HM:=hdq hm;have HX:=hdq h;clear h hm;go_enter Tryz.func187,Tryz.ntmps187;go_wp2_with fail;go_loop [5] (λi=>∃k:Nat,k<=m/\i= .int .i64 k/\Hid (∀(j:Nat)(s:List UInt8),j < k->(nmsV vs)[j]?=some s->s≠nm.data.toList)) (λi=>m - (intOf i).toNat);case atStart=>exact⟨0,Nat.zero_le _,rfl,hdq (λj s hj=>absurd hj (Nat.not_lt_zero _))⟩
 case round=>
  obtain⟨k,hk,rfl,hb⟩:=hrel;by_cases Hr:k < m
  ·obtain⟨xb,xo,hA,Hd⟩:=HX.vs.2.2 (by rw[<-HM.out];omega);have hd:=List.drop_eq_getElem_cons (show k < vs.length by rw[<-HM.out];exact Hr);obtain⟨x,hx⟩:=nmq (vs[k]'(by rw[<-HM.out];exact Hr));rw[<-hx]at hd;have Hb:=VaR.drop k Hd;rw[hd]at Hb;obtain⟨⟨Hf,_,r0,d0,d1⟩,_⟩:=Hb;have Gf:xb < w.heap.size:=HX.lo _ Hf;have Hl:(k:Int) < (m:Int):=by omega
   have Fb:(0:Int)<=(k:Int):=by omega
   subst hA;have Uh:(nmsV vs)[k]?=some x.nm.data.toList:=by
    unfold nmsV;rw[List.getElem?_map,List.getElem?_eq_getElem (by rw[<-HM.out];exact Hr),<-hx];rfl
   clear Hd hd Hf hx;by_cases he:x.nm=nm
   ·have heq:(x.nm.toList==nm.toList)=true:=ba_eq.2 he;have HF:=hdq (show(zav (nmsV vs)).get nm=(k:Int) by
     unfold NoN.get zav;rw[zd1 (k:=k) (by rw[Uh,he]) hb.out];rfl)
    clear he Uh hb;go_wp2_with fail;go_ret;exact⟨by rw[HF.out];rfl,rfl⟩
   ·have heq:(x.nm.toList==nm.toList)=false:=by rw[Bool.eq_false_iff];intro h;exact he (ba_eq.1 h)
    have HN:=hdq (show ∀(j:Nat)(s:List UInt8),j < k+1->(nmsV vs)[j]?=some s->s≠nm.data.toList from λj s hj hs=>by
     by_cases e:j=k
     ·subst e;rw[Uh]at hs;have hs:=Option.some.inj hs;rw[<-hs];intro h;refine he (ba_eq.1 ?_);rw[beq_iff_eq,zcg];exact h
     ·exact hb j s (by omega) hs)
    clear he Uh hb;go_wp2_with fail;go_round;case rel=>exact⟨k+1,by omega,by go_num,HN⟩
    case measure=>simp[intOf];omega
  ·have Hl:¬(k:Int) < (m:Int):=by omega
   have HF:=hdq (show(zav (nmsV vs)).get nm=0 by
    unfold NoN.get zav;rw[zd2 λj s hs=>hb j s (by
     have h1:=(List.getElem?_eq_some_iff.1 hs).1;unfold nmsV at h1;rw[List.length_map,<-HM.out]at h1;omega) hs]
    rfl)
   go_wp2_with fail;go_ret;exact⟨by rw[HF.out];rfl,rfl⟩
theorem zeN {w:World}{b:Nat}{S:Nat->Prop}{Z:Prop}{vs:List Va}{ars:List Arr}{Av Aa:Option Addr}{cv ca:Nat}(h:RfN w b S Z vs ars Av Aa cv ca)(nm:ByteArray):
  Calls Tryz.prog 189 #[.pointer (some ⟨b,0,none⟩),.string nm] w λe w'=>e= .returned (.int .i64 ((zav (nmsA ars)).get nm))/\w=w':=by
 have hl:ars.length<=9223372036854775807:=leq9 h.ars.1 h.ars.2.1.1;have c0:=h.c1;have cl:=h.lt;obtain⟨m,hm⟩:=nmq ars.length;rw[<-hm]at hl c0;have HM:=hdq hm;have HX:=hdq h;clear h hm;go_enter Tryz.func189,Tryz.ntmps189;go_wp2_with fail;go_loop [5] (λi=>∃k:Nat,k<=m/\i= .int .i64 k/\Hid (∀(j:Nat)(s:List UInt8),j < k->(nmsA ars)[j]?=some s->s≠nm.data.toList)) (λi=>m - (intOf i).toNat);case atStart=>exact⟨0,Nat.zero_le _,rfl,hdq (λj s hj=>absurd hj (Nat.not_lt_zero _))⟩
 case round=>
  obtain⟨k,hk,rfl,hb⟩:=hrel;by_cases Hr:k < m
  ·obtain⟨xb,xo,hA,Hd⟩:=HX.ars.2.2 (by rw[<-HM.out];omega);have hd:=List.drop_eq_getElem_cons (show k < ars.length by rw[<-HM.out];exact Hr);obtain⟨x,hx⟩:=nmq (ars[k]'(by rw[<-HM.out];exact Hr));rw[<-hx]at hd;have Hb:=ArR.drop k Hd;rw[hd]at Hb;obtain⟨⟨Hf,_,r0,r1,d0,d1,d2⟩,_⟩:=Hb;have Gf:xb < w.heap.size:=HX.lo _ Hf;have Hl:(k:Int) < (m:Int):=by omega
   have Fb:(0:Int)<=(k:Int):=by omega
   subst hA;have Uh:(nmsA ars)[k]?=some x.nm.data.toList:=by
    unfold nmsA;rw[List.getElem?_map,List.getElem?_eq_getElem (by rw[<-HM.out];exact Hr),<-hx];rfl
   clear Hd hd Hf hx;by_cases he:x.nm=nm
   ·have heq:(x.nm.toList==nm.toList)=true:=ba_eq.2 he;have HF:=hdq (show(zav (nmsA ars)).get nm=(k:Int) by
     unfold NoN.get zav;rw[zd1 (k:=k) (by rw[Uh,he]) hb.out];rfl)
    clear he Uh hb;go_wp2_with fail;go_ret;exact⟨by rw[HF.out];rfl,rfl⟩
   ·have heq:(x.nm.toList==nm.toList)=false:=by rw[Bool.eq_false_iff];intro h;exact he (ba_eq.1 h)
    have HN:=hdq (show ∀(j:Nat)(s:List UInt8),j < k+1->(nmsA ars)[j]?=some s->s≠nm.data.toList from λj s hj hs=>by
     by_cases e:j=k
     ·subst e;rw[Uh]at hs;have hs:=Option.some.inj hs;rw[<-hs];intro h;refine he (ba_eq.1 ?_);rw[beq_iff_eq,zcg];exact h
     ·exact hb j s (by omega) hs)
    clear he Uh hb;go_wp2_with fail;go_round;case rel=>exact⟨k+1,by omega,by go_num,HN⟩
    case measure=>simp[intOf];omega
  ·have Hl:¬(k:Int) < (m:Int):=by omega
   have HF:=hdq (show(zav (nmsA ars)).get nm=0 by
    unfold NoN.get zav;rw[zd2 λj s hs=>hb j s (by
     have h1:=(List.getElem?_eq_some_iff.1 hs).1;unfold nmsA at h1;rw[List.length_map,<-HM.out]at h1;omega) hs]
    rfl)
   go_wp2_with fail;go_ret;exact⟨by rw[HF.out];rfl,rfl⟩
structure RfX (sc ar:NoN)(W:World)(xs:Exs)(v:Value)(wr:World)(acc:List Ex)(cs:List Value)(k:Nat):Prop where
 row:wr.ownsRow W.heap.size 41 5 v acc.length cs
 rows:RowR oneX wr (NewR W.heap.size v wr) acc cs
 fr:Fr NoT W wr
 eq:zeb acc (numX sc ar (Exs.drop k xs))=numX sc ar xs
 len:acc.length=k
def RfxC (vs:List Va)(ars:List Arr)(xs:Exs):Prop:=∀(W:World)(b:Nat)(S T:Nat->Prop)(Z Z':Prop)(A Av Aa:Option Addr)(c cv ca:Nat),(∀b,S b->b < W.heap.size)->RfN W b T Z' vs ars Av Aa cv ca->SlR (λb o=>ExR W S Z xs b o) xs.len 64 A c->
 Calls Tryz.prog 188 #[.pointer (some ⟨b,0,none⟩),.slice A xs.len c] W (BxP (numX (zav (nmsV vs)) (zav (nmsA ars)) xs) W)
def RfxI (vs:List Va)(ars:List Arr)(xs:Exs):Prop:=∀(i:Nat)(a0:Int)(a1:ByteArray)(a2:Int)(a3:Exs)(a4:Int)(ar:Exs),Exs.drop i xs= .cons a0 a1 a2 a3 a4 ar->RfxC vs ars a3
theorem zkq (vs:List Va)(ars:List Arr)(h1:NoR (zav (nmsV vs)))(h2:NoR (zav (nmsA ars)))(xs:Exs)(Ho:RfxI vs ars xs):RfxC vs ars xs:=by
 intro w wb S T Z Z' A Av Aa c cv ca hS Fi hx;have F4:=hdq Fi;have Qf:=hdq (aiq h1 h2);obtain⟨sc,Wu⟩:=nmq (zav (nmsV vs));obtain⟨ar,XS⟩:=nmq (zav (nmsA ars));rw[<-Wu,<-XS]at Qf ⊢;have QU:=hdq (aiq Wu XS);obtain⟨i0,hi,Fe,Gh,Gn⟩:=info_parts zfH;have HI:=hdq (aiq hi (aiq Fe (aiq Gh Gn)));have hl:xs.len<=9223372036854775807:=leq9 hx.1 hx.2.1.1;have HA:=hdq Ho;have HX:=hdq hx;have HS:=hdq hS;obtain⟨m,hm⟩:=nmq xs.len;have Ji:=hdq (show m*64<=140737488355328 from by rw[hm];exact hx.2.1.2);rw[<-hm]at hl ⊢;have HM:=hdq hm;have JJ:=hdq (show RfX sc ar w xs (.slice none 0 0) w [] [] 0 from⟨World.ownsRow_nil _ _ _ _,rfl,Fr.refl _ _,rfl,rfl⟩);clear Ho hx hS hm hi Fe Gh Gn Fi Wu XS h1 h2;go_enter Tryz.func188,Tryz.ntmps188;go_wp2_with fail;go_loopw [5,6] (λv i wr=>∃k:Nat,k<=m/\i= .int .i64 k/\∃(acc:List Ex)(cs:List Value),Hid (RfX sc ar w xs v wr acc cs k)) (λv i _=>m - (intOf i).toNat);case atStart=>exact⟨0,Nat.zero_le _,rfl, [], [],JJ⟩
 case round=>
  clear JJ;obtain⟨k,hk,rfl,acc,cs,hb⟩:=hrel;by_cases Hr:k < m
  ·obtain⟨a0,a1,a2,a3,a4,ax,hd⟩:=Exs.drop_cons (show k < xs.len from by rw[<-HM.out];exact Hr);obtain⟨eb,o,rfl,Hd⟩:=HX.2.2 (by rw[<-HM.out];omega);have Hb:=(ExR.keep (hb.fr.same λb hb=>⟨HS b hb,id⟩) Hd).drop k;rw[hd]at Hb;obtain⟨⟨Hf,_,r0,r1,r2,c0,c1,c2,c4⟩,⟨A3,q3,c3,s3⟩,_⟩:=Hb;have Gf:eb < wr.heap.size:=ltq (HS _ Hf) hb.fr.size;have Hl:(k:Int) < (m:Int):=by omega
   have Fb:(0:Int)<=(k:Int):=by omega
   obtain⟨l3,Gz⟩:=nmq a3.len;rw[<-Gz]at c3;obtain⟨w5,GE⟩:=nmq (wr.alloc (.cells #[.int .u8 a0,.string a1,.int .i64 a2,.slice A3 l3 q3,.int .i64 a4] 41));have Hs:Fr NoT wr w5:=by rw[GE];exact(Fr.refl _ _).alloc _
   have Hm:Bk w5 wr.heap.size 41 #[.int .u8 a0,.string a1,.int .i64 a2,.slice A3 l3 q3,.int .i64 a4]:=by
    rw[GE];exact Bk.new _ _ _
   have h7:=λ(W:World)(hW:Fr NoT wr W)=>HA k a0 a1 a2 a3 a4 ax hd W wb S T Z Z' A3 Av Aa q3 cv ca (λb h=>ltq (ltq (HS b h) hb.fr.size) hW.size) (F4.fr0 (hb.fr.trans hW)) (s3.imp λ_ _ hx=>ExR.keep (hW.same λb h=>⟨ltq (HS b h) hb.fr.size,id⟩) hx);have h6:=zcl (F4.fr0 (hb.fr.trans Hs)) a1;have qx:=zeN (F4.fr0 (hb.fr.trans Hs)) a1;rw[<-QU.1]at h6;rw[<-QU.2]at qx;rw[<-Gz,<-QU.1,<-QU.2]at h7;have H6:=hdq h6;have ua:=hdq qx;have XR:=hdq h7;have HD:=hdq hd;have GO:=hdq Hm;have Hx:=hdq Hs;have JD:=hdq GE;have HR:=hdq (aiq r0 (aiq r1 r2));obtain⟨n6,RF⟩:=nmq (numN sc ar a0 a1 a2);have W5:=hdq RF;have qy:=hdq (show in64 n6 by
    rw[RF];unfold numN;split
    ·exact Qf.1 a1
    ·split
     ·exact Qf.2 a1
     ·exact r1)
   have Pd:((a0==2)=true/\(a0==3)=false/\Hid (n6=sc.get a1))\/((a0==2)=false/\(a0==3)=true/\Hid (n6=ar.get a1))\/((a0==2)=false/\(a0==3)=false/\Hid (n6=a2)):=by
    by_cases h:a0=2
    ·exact .inl ⟨by simpa using h,by simp[h],by rw[RF,h];exact hdq rfl⟩
    ·by_cases h3:a0=3
     ·exact .inr (.inl ⟨by simpa using h,by simpa using h3,by rw[RF,h3];exact hdq rfl⟩)
     ·exact .inr (.inr ⟨by simpa using h,by simpa using h3,by rw[RF];unfold numN;rw[if_neg h,if_neg h3];exact hdq rfl⟩)
   clear hd Hd Hf s3 r0 r1 r2 Gz h7 h6 qx Hm Hs GE RF;rcases Pd with⟨h2,h3,Ug⟩|⟨h2,h3,Ug⟩|⟨h2,h3,Ug⟩
   case' inl=>
    go_wp2_with fail;rw[<-JD.out];refine H6.mono ?_;rintro _ wz ⟨rfl,MM⟩;rw[<-MM,<-Ug.out];clear MM wz;obtain⟨w6,GM⟩:=nmq (w5.setCell ⟨wr.heap.size,2,none⟩ (.int .i64 n6));have y2:=GO.cell 2;have z2:=GO.frozen 2;have yl:=GO.lt;have Fy:Bk w6 wr.heap.size 41 #[.int .u8 a0,.string a1,.int .i64 n6,.slice A3 l3 q3,.int .i64 a4]:=by
     have:=GO.set_ 2 (.int .i64 n6);rw[GM];simpa using this
    have Fk:Fr NoT wr w6:=by rw[GM];exact Fr.high Hx.out (lrq _) _ _
    have y3:w6.cell? ⟨wr.heap.size,3,none⟩=some (.slice A3 l3 q3):=by
     have:=Fy.cell 3;simpa using this
    have y0:w6.cell? ⟨wr.heap.size,0,none⟩=some (.int .u8 a0):=by
     have:=Fy.cell 0;simpa using this
    rw[GM]at y3 y0;simp only[getsL]at y2;have Lw:=hdq Fy;have GF:=hdq Fk;have Lx:=hdq GM;have H7:=hdq (XR w6 Fk);clear Fy Fk GM JD c0 c1 c2 c3 c4 Gf;go_wp2_with fail;rw[<-Lx.out];clear y2 z2 yl y3 y0
   case' inr.inl=>
    go_wp2_with fail;rw[<-JD.out];refine ua.mono ?_;rintro _ wz ⟨rfl,MM⟩;rw[<-MM,<-Ug.out];clear MM wz;obtain⟨w6,GM⟩:=nmq (w5.setCell ⟨wr.heap.size,2,none⟩ (.int .i64 n6));have y2:=GO.cell 2;have z2:=GO.frozen 2;have yl:=GO.lt;have Fy:Bk w6 wr.heap.size 41 #[.int .u8 a0,.string a1,.int .i64 n6,.slice A3 l3 q3,.int .i64 a4]:=by
     have:=GO.set_ 2 (.int .i64 n6);rw[GM];simpa using this
    have Fk:Fr NoT wr w6:=by rw[GM];exact Fr.high Hx.out (lrq _) _ _
    have y3:w6.cell? ⟨wr.heap.size,3,none⟩=some (.slice A3 l3 q3):=by
     have:=Fy.cell 3;simpa using this
    have y0:w6.cell? ⟨wr.heap.size,0,none⟩=some (.int .u8 a0):=by
     have:=Fy.cell 0;simpa using this
    rw[GM]at y3 y0;simp only[getsL]at y2;have Lw:=hdq Fy;have GF:=hdq Fk;have Lx:=hdq GM;have H7:=hdq (XR w6 Fk);clear Fy Fk GM JD c0 c1 c2 c3 c4 Gf;go_wp2_with fail;rw[<-Lx.out];clear y2 z2 yl y3 y0
   case' inr.inr=>
    obtain⟨w6,GM⟩:=nmq w5;have Lw:=hdq (show Bk w6 wr.heap.size 41 #[.int .u8 a0,.string a1,.int .i64 n6,.slice A3 l3 q3,.int .i64 a4] by rw[GM,Ug.out];exact GO.out);have GF:=hdq (show Fr NoT wr w6 by rw[GM];exact Hx.out);have Lx:=hdq GM;have H7:=hdq (XR w6 GF.out);clear GM;go_wp2_with fail;rw[<-JD.out,<-Lx.out];clear c0 c1 c2 c3 c4 Gf JD
   all_goals
    refine H7.mono ?_;rintro _ w7 ⟨A4,q4,rfl,s4,Gw⟩;have GK:=Lw.fr0 Gw;have x0:=GK.cell 0;have x1:=GK.cell 1;have x2:=GK.cell 2;have x3:=GK.cell 3;have x4:=GK.cell 4;have z3:=GK.frozen 3;have xl:=GK.lt;simp only[getsL]at x0 x1 x2 x3 x4;obtain⟨l4,Gy⟩:=nmq ((numX sc ar a3).len );rw[<-Gy];have Qh:=hdq Gy
    -- the world ahead of the append
    obtain⟨w8,GG⟩:=nmq (w7.setCell ⟨wr.heap.size,3,none⟩ (.slice A4 l4 q4));obtain⟨w9,FY⟩:=nmq (w8.alloc (.cells #[.int .u8 a0,.string a1,.int .i64 n6,.slice A4 l4 q4,.int .i64 a4] 41));have LX:Fr (λb=>b=wr.heap.size) w7 w9:=by rw[FY,GG];exact(Fr.own (Fr.refl _ _) 3 _).alloc _
    have Gm:Fr NoT wr w9:=by rw[FY,GG];exact(Fr.high (GF.trans Gw) (lrq _) _ _).alloc _
    have FM:Bk w9 w7.heap.size 41 ([.int .u8 a0,.string a1,.int .i64 n6,.slice A4 l4 q4,.int .i64 a4]:List Value).toArray :=by rw[FY];exact Bk.new_at _ _ _ (by rw[GG];simp)
    have Fl:=World.ownsRow.kept (w':=w9) hb.row (row:=none) ⟨Gm.os,Gm.tape,Gm.output,Gm.size,λi hi _=>Gm.block i hi id⟩ (Classical.em _);have Jj:=hdq Fl;have LW:=hdq FM;have LY:=hdq LX;have FT:=hdq Gm;have JG:=hdq Gw;have Lj:=hdq s4;have LZ:w.heap.size<=w9.heap.size:=leq9 hb.fr.size Gm.size;have FN:(acc.length+1)*64<=140737488355328:=by have:=Ji.out;have:=hb.len;omega
    have Jt:acc.length+1<=9223372036854775807:=by have:=hb.len;omega
    have NL:=hdq FY;have K8:=hdq GG;clear Gy GG FY LX Gm FM Fl GK Gw s4;go_wp2_with (at_builtin;rw[<-K8.out,<-NL.out];refine zal _ rfl _ _ 36 rfl w.heap.size 41 i0 (.agg #[.int .u8 0,.string ⟨#[]⟩,.int .i64 0,.slice none 0 0,.int .i64 0]) 5 64 Tryz.underlying36 HI.1 HI.2.1 HI.2.2.1 HI.2.2.2 rfl (by decide) _ _ _ rfl Jj.out ⟨w7.heap.size,0,none⟩ 1 1 _ rfl rfl LW.newsL ?c2 (by decide) ?c3 FN LZ ?_);case c2=>
     intro u hu;simp only[List.mem_cons,List.not_mem_nil,or_false]at hu;rcases hu with rfl|rfl|rfl|rfl|rfl<;>rfl
    case c3=>unfold maxLen;omega
    intro v' DI Hg Hh GY;have Wd:wr.heap.size < w7.heap.size:=xl;have Hq:=RowR.step za4 hb.row hb.fr.size hb.rows FT.out (y:=(⟨a0,a1,n6,numX sc ar a3,a4⟩:Ex)) (zs:= [.int .u8 a0,.string a1,.int .i64 n6,.slice A4 l4 q4,.int .i64 a4])
     ⟨A4,q4,by rw[Qh.out],HR.1,qy.out,HR.2.2,Lj.imp λ_ _ h=>ExR.more (λb hb=>⟨by have h1:=hb.1;have:=GF.size;omega,by have h2:=hb.2;have:=LY.size;omega⟩) (ExR.keep (LY.same λb hb=>⟨hb.2,λe=>by have e:b=wr.heap.size:=e;have h1:=hb.1;have:=Lw.lt;omega⟩) h)⟩ Hh GY
    have hlen:(acc++ [(⟨a0,a1,n6,numX sc ar a3,a4⟩:Ex)]).length =acc.length+1:=by simp
    have F8:=hdq (show RfX sc ar w xs v' DI (acc++ [⟨a0,a1,n6,numX sc ar a3,a4⟩]) (cs++ [.int .u8 a0,.string a1,.int .i64 n6,.slice A4 l4 q4,.int .i64 a4]) (k+1)from
     ⟨by rw[hlen];exact Hg,Hq.1,Fr.back1 hb.fr Hq.2 (lrq _),by
      rw[zbA,Exs.drop_succ k xs HD.out,<-hb.eq,HD.out,W5.out];rfl,by rw[hlen,hb.len]⟩)
    clear Hg Hh GY Hq hlen FN Jt LZ x0 x1 x2 x3 x4 z3 xl;go_wp2_with fail;go_roundw;case rel=>exact⟨k+1,by omega,by go_num,_,_,F8⟩
    case measure=>simp[intOf];omega
  ·have Hl:¬(k:Int) < (m:Int):=by omega
   have JK:k=m:=by omega
   have hle:(numX sc ar xs).len =acc.length:=by rw[zaY,<-HM.out,hb.len,JK]
   have heq:numX sc ar xs=zd9 acc:=by
    rw[<-zbB,<-hb.eq,Exs.drop_nil (by rw[<-HM.out];omega)];rfl
   obtain⟨A',c',he,Fh⟩:=RowR.slice za4 (sz:=64) hb.row hb.rows (by rw[hb.len,JK];exact Ji.out) (P:=λb o=>ExR wr (New w.heap.size wr) True (numX sc ar xs) b o) λg hg hr hc=>by
    rw[heq];exact rowX (o:=0) hg hr λj u hj=>by rw[Nat.zero_add];exact hc j u hj
   have HE:=hdq he;have J7:=hdq Fh;have K9:=hdq hle;clear heq hle he Fh;go_wp2_with fail;go_ret;refine⟨A',c',?_,?_,hb.fr⟩
   ·rw[K9.out,HE.out];rfl
   ·rw[K9.out];exact J7.out
theorem zfu (vs:List Va)(ars:List Arr)(h1:NoR (zav (nmsV vs)))(h2:NoR (zav (nmsA ars))):∀xs:Exs,RfxI vs ars xs
 | .nil,i,_,_,_,_,_,_,h=>by cases i<;>simp[Exs.drop]at h
 | .cons k nm n args at_ rest,0,a0,a1,a2,a3,a4,ar,h=>by
  simp only[Exs.drop,Exs.cons.injEq]at h;obtain⟨_,_,_,rfl,_,_⟩:=h;exact zkq vs ars h1 h2 _ (zfu vs ars h1 h2 _)
 | .cons k nm n args at_ rest,i+1,a0,a1,a2,a3,a4,ar,h=>by
  simp only[Exs.drop]at h;exact zfu vs ars h1 h2 rest i a0 a1 a2 a3 a4 ar h
theorem zcm (vs:List Va)(ars:List Arr)(h1:NoR (zav (nmsV vs)))(h2:NoR (zav (nmsA ars)))(xs:Exs):RfxC vs ars xs:=zkq vs ars h1 h2 xs (zfu vs ars h1 h2 xs)
theorem CdR.first9 {w:World}{S:Nat->Prop}{Z:Prop}{k:Int}{args:Exs}{of_:Cds}{at_:Int}{r:Cds}{b o:Nat}(h:CdR w S Z (.cons k args of_ at_ r) b o):∃A c A' c',SlR (λb' o'=>ExR w S Z args b' o') args.len 64 A c/\SlR (λb' o'=>CdR w S Z of_ b' o') of_.len 64 A' c'/\S b/\
  w.cell? ⟨b,o,none⟩=some (.int .u8 k)/\w.cell? ⟨b,o+1,none⟩=some (.slice A args.len c)/\w.cell? ⟨b,o+2,none⟩=some (.slice A' of_.len c')/\w.cell? ⟨b,o+3,none⟩=some (.int .i64 at_):=by
 obtain⟨⟨h1,_,_,_,c0,c3⟩,⟨A,c,c1,s1⟩,⟨A',c',c2,s2⟩,_⟩:=h;exact⟨A,c,A',c',s1,s2,h1,c0,c1,c2,c3⟩
theorem CdR.second9 {w:World}{S:Nat->Prop}{Z:Prop}{k:Int}{args:Exs}{of_:Cds}{at_:Int}{r:Cds}{b o:Nat}(h:CdR w S Z (.cons k args of_ at_ r) b o):CdR w S Z r b (o+4):=h.2.2.2
structure RfK where
 B:Nat
 b:Nat
 vs:List Va
 ars:List Arr
 Av:Option Addr
 Aa:Option Addr
 Ap:Option Addr
 Am:Option Addr
 cv:Nat
 ca:Nat
 cp:Nat
 cm:Nat
 n3:Nat
 n4:Nat
 vars:Int
 sl:Value
 T:Nat->Prop
 Z:Prop
abbrev RfK.sc (C:RfK):NoN:=zav (nmsV C.vs)
abbrev RfK.ar (C:RfK):NoN:=zav (nmsA C.ars)
structure RfK.At (C:RfK)(s:FgS)(v:Value)(w:World):Prop where
 st:RfS C.B C.b (.slice C.Av C.vs.length C.cv) (.slice C.Aa C.ars.length C.ca) (.slice C.Ap C.n3 C.cp) (.slice C.Am C.n4 C.cm) C.vars C.sl s v w
 lo:∀x,C.T x->x < C.B
 hv:SlR (VaR w C.T C.Z C.vs) C.vs.length 24 C.Av C.cv
 ha:SlR (ArR w C.T C.Z C.ars) C.ars.length 32 C.Aa C.ca
 r1:NoR C.sc
 r2:NoR C.ar
section
variable {C:RfK} {s s':FgS} {v v':Value} {w w':World}
theorem RfK.At.names (h:C.At s v w):RfN w C.b C.T C.Z C.vs C.ars C.Av C.Aa C.cv C.ca:=
 ⟨h.st.bk.cell 0,h.st.bk.cell 1,h.st.bk.lt,λx hx=>ltq (h.lo x hx) h.st.base,h.hv,h.ha⟩
theorem RfK.At.fr0 (h:C.At s v w)(hf:Fr NoT w w'):C.At s v w':=
 have hs:SameS C.T w w':=hf.same λx hx=>⟨ltq (h.lo x hx) h.st.base,id⟩
 ⟨h.st.fr0 hf,h.lo,h.hv.imp λ_ _=>VaR.keep hs,h.ha.imp λ_ _=>ArR.keep hs,h.r1,h.r2⟩
theorem RfK.At.more (h:C.At s v w)(hs:RfS C.B C.b (.slice C.Av C.vs.length C.cv) (.slice C.Aa C.ars.length C.ca) (.slice C.Ap C.n3 C.cp) (.slice C.Am C.n4 C.cm) C.vars C.sl s' v' w')(hm:Made C.b v v' w w'):C.At s' v' w':=
 have hk:SameS C.T w w':=hm.sameR h.st h.lo
 ⟨hs,h.lo,h.hv.imp λ_ _=>VaR.keep hk,h.ha.imp λ_ _=>ArR.keep hk,h.r1,h.r2⟩
theorem RfK.At.same (h:C.At s v w)(hm:Made C.b v v' w w'){S:Nat->Prop}(hS:∀x,S x->x < C.B):SameS S w w':=hm.sameR h.st hS
def FP9 (C:RfK)(s:FgS)(v:Value)(W:World)(e:Ending)(w':World):Prop:=∃v',e= .returned (.tuple #[])/\C.At s v' w'/\Made C.b v v' W w'
theorem RfK.At.node (h:C.At s v w)(hr:Room 1 s):Calls Tryz.prog 142 #[.pointer (some ⟨C.b,0,none⟩)] w λe w'=>e= .returned (.int .i64 s.nodes)/\C.At s.node v w'/\Made C.b v v w w':=
 (zj2 h.st hr.1 (by have:=hr.2.1;omega)).mono λe w' ⟨h1,h2,h3⟩=>⟨h1,h.more h2 h3,h3⟩
theorem RfK.At.edge0 (h:C.At s v w)(f t a k n c:Int)(G9:in64 f/\in64 t/\in8 k/\in64 n/\in8 c/\in64 a):Calls Tryz.prog 141 #[.pointer (some ⟨C.b,0,none⟩),.int .i64 f,.int .i64 t,.agg #[.int .u8 k,.int .i64 n,.int .u8 c,.slice none 0 0],.int .i64 a] w (FP9 C (s.put C.sc C.ar f t a k n c .nil) v w):=
 (zge h.st (Fr.refl NoT w) f t a k n c G9 .nil none 0 0 rfl ⟨lrq _,by decide,λh=>absurd h (Nat.lt_irrefl _)⟩).mono λe w' ⟨v',h1,h2,h3⟩=>⟨v',h1,h.more h2 h3,h3⟩
theorem RfK.At.edge1 {w0:World}(h:C.At s v w0)(hf:Fr NoT w0 w)(f t a k n c:Int)(G9:in64 f/\in64 t/\in8 k/\in64 n/\in8 c/\in64 a)(xs:Exs)(A:Option Addr)(cc l:Nat)(hl:xs.len=l)(hx:SlR (λb o=>ExR w (New w0.heap.size w) True (numX C.sc C.ar xs) b o) xs.len 64 A cc):
  Calls Tryz.prog 141 #[.pointer (some ⟨C.b,0,none⟩),.int .i64 f,.int .i64 t,.agg #[.int .u8 k,.int .i64 n,.int .u8 c,.slice A l cc],.int .i64 a] w (FP9 C (s.put C.sc C.ar f t a k n c xs) v w0):=
 (zge h.st hf f t a k n c G9 (numX C.sc C.ar xs) A cc l (by rw[zaY];exact hl) (by rw[zaY];exact hx)).mono λe w' ⟨v',h1,h2,h3⟩=>⟨v',h1,h.more h2 h3,h3⟩
end
theorem zmV (k:Int):in8 (oppK k):=by
 unfold oppK
 repeat' split
 all_goals exact⟨by decide,by decide⟩
theorem zkr (k:Int)(h:3<=k/\k<=8)(w:World):Calls Tryz.prog 219 #[.int .u8 k] w λe w'=>e= .returned (.int .u8 (oppK k))/\Fr NoT w w':=by
 have HF:=hdq (show Fr NoT w (w.alloc (.cells #[.int .u8 6,.int .u8 5,.int .u8 4,.int .u8 3,.int .u8 8,.int .u8 7] 5))from(Fr.refl _ _).alloc _);have wr0:IntKind.u8.wrap 0=0:=by decide
 have wr1:IntKind.u8.wrap 1=1:=by decide
 have wr2:IntKind.u8.wrap 2=2:=by decide
 have wr3:IntKind.u8.wrap 3=3:=by decide
 have wr4:IntKind.u8.wrap 4=4:=by decide
 have wr5:IntKind.u8.wrap 5=5:=by decide
 obtain rfl|rfl|rfl|rfl|rfl|rfl:k=3\/k=4\/k=5\/k=6\/k=7\/k=8:=by omega
 all_goals
  clear h;go_enter Tryz.func219,Tryz.ntmps219;go_wp2_with fail;go_ret;exact⟨rfl,HF.out⟩
def FCd9 (C:RfK)(k:Int)(args:Exs)(of_:Cds):Prop:=∀(at_ f y n:Int)(s:FgS)(v:Value)(w:World)(S:Nat->Prop)(Z:Prop)(A A2:Option Addr)(c c2:Nat),C.At s v w->(∀x,S x->x < C.B)->in64 f/\in64 y/\in64 n/\in64 at_->Room (2+szN of_) s->
 SlR (λb o=>ExR w S Z args b o) args.len 64 A c->SlR (λb o=>CdR w S Z of_ b o) of_.len 64 A2 c2->
 Calls Tryz.prog 190 #[.pointer (some ⟨C.b,0,none⟩),.agg #[.int .u8 k,.slice A args.len c,.slice A2 of_.len c2,.int .i64 at_],.int .i64 f,.int .i64 y,.int .i64 n] w (FP9 C (wayC C.sc C.ar k args (zaw C.sc C.ar of_) at_ f y n s) v w)
theorem zlG (C:RfK)(args:Exs)(of_:Cds):FCd9 C 1 args of_:=by
 intro at_ f y n s v w S Z A A2 c c2 h hS Gb hr hx Fv;obtain⟨al,Jh⟩:=nmq args.len;obtain⟨ol,KL⟩:=nmq of_.len;rw[<-Jh,<-KL];obtain⟨w1,Hc⟩:=nmq (w.alloc (.cells #[.int .u8 1,.slice A al c,.slice A2 ol c2,.int .i64 at_] 160));have Hi:Fr NoT w w1:=by rw[Hc];exact(Fr.refl _ _).alloc _
 have Hp:Bk w1 w.heap.size 160 #[.int .u8 1,.slice A al c,.slice A2 ol c2,.int .i64 at_]:=by rw[Hc];exact Bk.new _ _ _
 have Gk:¬MOwn C.b v w.heap.size:=h.st.new (lrq _);have HE:=hdq ((h.fr0 Hi).edge0 f y at_ 1 0 0 ⟨Gb.1,Gb.2.1,by unfold in8;decide,by unfold in64;decide,by unfold in8;decide,Gb.2.2.2⟩);have c3:=Hp.cell 3;have cl:=Hp.lt;simp only[getsL]at c3;have Ga:=hdq Hc;have Hn:=hdq Hi;rw[Hc]at c3 cl;show Calls _ _ _ _ (FP9 C (s.put C.sc C.ar f y at_ 1 0 0 .nil) v w)
 clear h hS Gb hr hx Fv Jh KL Hc Hi Hp Gk;go_enter Tryz.func190,Tryz.ntmps190;go_wp2_with fail;rw[<-Ga.out];refine HE.mono ?_;rintro _ w2 ⟨v',rfl,h2,Fg⟩;have H2:=hdq (aiq h2 ((Made.of Hn.out).trans Fg));clear h2 Fg;go_wp2_with fail;go_end0;exact⟨v',rfl,H2.1,H2.2⟩
theorem zmW (C:RfK)(args:Exs)(of_:Cds):FCd9 C 2 args of_:=by
 intro at_ f y n s v w S Z A A2 c c2 h hS Gb hr hx Fv;obtain⟨al,Jh⟩:=nmq args.len;obtain⟨ol,KL⟩:=nmq of_.len;rw[<-Jh,<-KL];obtain⟨w1,Hc⟩:=nmq (w.alloc (.cells #[.int .u8 2,.slice A al c,.slice A2 ol c2,.int .i64 at_] 160));have Hi:Fr NoT w w1:=by rw[Hc];exact(Fr.refl _ _).alloc _
 have Hp:Bk w1 w.heap.size 160 #[.int .u8 2,.slice A al c,.slice A2 ol c2,.int .i64 at_]:=by rw[Hc];exact Bk.new _ _ _
 have Gk:¬MOwn C.b v w.heap.size:=h.st.new (lrq _);have HE:=hdq ((h.fr0 Hi).edge0 f n at_ 1 0 0 ⟨Gb.1,Gb.2.2.1,by unfold in8;decide,by unfold in64;decide,by unfold in8;decide,Gb.2.2.2⟩);have c3:=Hp.cell 3;have cl:=Hp.lt;simp only[getsL]at c3;have Ga:=hdq Hc;have Hn:=hdq Hi;rw[Hc]at c3 cl;show Calls _ _ _ _ (FP9 C (s.put C.sc C.ar f n at_ 1 0 0 .nil) v w)
 clear h hS Gb hr hx Fv Jh KL Hc Hi Hp Gk;go_enter Tryz.func190,Tryz.ntmps190;go_wp2_with fail;rw[<-Ga.out];refine HE.mono ?_;rintro _ w2 ⟨v',rfl,h2,Fg⟩;have H2:=hdq (aiq h2 ((Made.of Hn.out).trans Fg));clear h2 Fg;go_wp2_with fail;go_end0;exact⟨v',rfl,H2.1,H2.2⟩
theorem zlH (C:RfK)(args:Exs)(k1:Int)(b1:Exs)(o1:Cds)(DK:Int)(r1:Cds)(ih:FCd9 C k1 b1 o1):FCd9 C 9 args (.cons k1 b1 o1 DK r1):=by
 intro at_ f y n s v w S Z A A2 c c2 h hS Gb hr hx Fv;obtain⟨al,Jh⟩:=nmq args.len;obtain⟨bA,oA,rfl,Hd⟩:=Fv.2.2 (Nat.succ_pos _);obtain⟨ol,KL⟩:=nmq ((Cds.cons k1 b1 o1 DK r1).len );have ZO:0 < ol:=by rw[KL];exact Nat.succ_pos _
 have ZP:(0:Int) < (ol:Int):=by omega
 rw[<-Jh,<-KL];obtain⟨w1,Hc⟩:=nmq (w.alloc (.cells #[.int .u8 9,.slice A al c,.slice (some ⟨bA,oA,none⟩) ol c2,.int .i64 at_] 160));have Hi:Fr NoT w w1:=by rw[Hc];exact(Fr.refl _ _).alloc _
 have Hp:Bk w1 w.heap.size 160 #[.int .u8 9,.slice A al c,.slice (some ⟨bA,oA,none⟩) ol c2,.int .i64 at_]:=by rw[Hc];exact Bk.new _ _ _
 have Gk:¬MOwn C.b v w.heap.size:=h.st.new (lrq _);have GW:SameS S w w1:=Hi.same λx hx=>⟨ltq (hS x hx) h.st.base,id⟩;have Hb:=CdR.keep GW Hd;obtain⟨A1,q1,A3,q3,s1,s2,Hf,c0,c1,ES,c3⟩:=Hb.first9;have MX:in64 DK:=Hb.1.2.2.2.1;have PK:bA < w1.heap.size:=ltq (ltq (hS _ Hf) h.st.base) Hi.size;have HE:=hdq (ih DK f n y s v w1 S Z A1 A3 q1 q3 (h.fr0 Hi) hS ⟨Gb.1,Gb.2.2.1,Gb.2.1,MX⟩ (hr.less (by simp only[szN];omega)) s1 s2);have x2:=Hp.cell 2;have xl:=Hp.lt;simp only[getsL]at x2;have Ga:=hdq Hc;have Hn:=hdq Hi;rw[Hc]at x2 xl c0 c1 ES c3 PK;show Calls _ _ _ _ (FP9 C (wayC C.sc C.ar k1 b1 (zaw C.sc C.ar o1) DK f n y s) v w)
 clear h hS Gb hr hx Fv Jh KL Hc Hi Hp Gk Hd Hb GW s1 s2 Hf ih MX;go_enter Tryz.func190,Tryz.ntmps190;go_wp2_with fail;rw[<-Ga.out];refine HE.mono ?_;rintro _ w2 ⟨v',rfl,h2,Fg⟩;have H2:=hdq (aiq h2 ((Made.of Hn.out).trans Fg));clear h2 Fg;go_wp2_with fail;go_end0;exact⟨v',rfl,H2.1,H2.2⟩
theorem zlI (C:RfK)(args:Exs)(k1:Int)(b1:Exs)(o1:Cds)(DK:Int)(k2:Int)(b2:Exs)(o2:Cds)(Eg:Int)(r1:Cds)(ih:FCd9 C k1 b1 o1)(ih2:FCd9 C k2 b2 o2):FCd9 C 10 args (.cons k1 b1 o1 DK (.cons k2 b2 o2 Eg r1)):=by
 intro at_ f y n s v w S Z A A2 c c2 h hS Gb hr hx Fv;obtain⟨al,Jh⟩:=nmq args.len;obtain⟨bA,oA,rfl,Hd⟩:=Fv.2.2 (Nat.succ_pos _);obtain⟨ol,KL⟩:=nmq ((Cds.cons k1 b1 o1 DK (.cons k2 b2 o2 Eg r1)).len );have ZO:1 < ol:=by rw[KL];exact Nat.succ_lt_succ (Nat.succ_pos _)
 have ZP:(0:Int) < (ol:Int):=by omega
 have qz:(1:Int) < (ol:Int):=by omega
 rw[<-Jh,<-KL];obtain⟨w1,Hc⟩:=nmq (w.alloc (.cells #[.int .u8 10,.slice A al c,.slice (some ⟨bA,oA,none⟩) ol c2,.int .i64 at_] 160));have Hi:Fr NoT w w1:=by rw[Hc];exact(Fr.refl _ _).alloc _
 have Hp:Bk w1 w.heap.size 160 #[.int .u8 10,.slice A al c,.slice (some ⟨bA,oA,none⟩) ol c2,.int .i64 at_]:=by rw[Hc];exact Bk.new _ _ _
 have Gk:¬MOwn C.b v w.heap.size:=h.st.new (lrq _);have Rh:Room (2+(2+szN o1+(2+szN o2+szN r1))) s:=hr;have HN:=hdq ((h.fr0 Hi).node (Rh.less (by omega)));have x2:=Hp.cell 2;have xl:=Hp.lt;simp only[getsL]at x2;have Ga:=hdq Hc;have Hn:=hdq Hi;have Gv:=hdq (aiq Hp (show ¬MOwn C.b v w.heap.size from Gk));have HH:=hdq h;have HS:=hdq hS;have Lp:=hdq Hd;have ZQ:=hdq (aiq ih ih2);have Gs:=hdq Gb;have Ms:in64 s.nodes:=hr.in_;have SJ:=hdq Ms;have HR:=hdq Rh;clear h hS Gb hr Rh hx Fv Jh KL Hc Hi Hp Gk Hd ih ih2 Ms;show Calls _ _ _ _ (FP9 C (wayC C.sc C.ar k2 b2 (zaw C.sc C.ar o2) Eg s.nodes y n (wayC C.sc C.ar k1 b1 (zaw C.sc C.ar o1) DK f s.nodes n s.node)) v w)
 obtain⟨FS,LE⟩:∃F:FgS,F=wayC C.sc C.ar k1 b1 (zaw C.sc C.ar o1) DK f s.nodes n s.node:=⟨_,rfl⟩;obtain⟨GS,Kq⟩:∃G:FgS,G=wayC C.sc C.ar k2 b2 (zaw C.sc C.ar o2) Eg s.nodes y n FS:=⟨_,rfl⟩;rw[<-LE,<-Kq];have QV:=hdq LE;have SK:=hdq Kq;clear LE Kq;go_enter Tryz.func190,Tryz.ntmps190;go_wp2_with fail;rw[<-Ga.out];refine HN.mono ?_;rintro _ w2 ⟨rfl,h2,Fg⟩;have Qa:=(Made.of (b:=C.b) (v:=v) Hn.out).trans Fg;have FL:=Fg.bk Gv.1 Gv.2;have x2':=FL.1.cell 2;have xl':=FL.1.lt;simp only[getsL]at x2';have GT:=CdR.keep (HH.same Qa HS.out) Lp.out;obtain⟨A1,q1,A3,q3,s1,s2,Hf,c0,c1,ES,c3⟩:=GT.first9;have MX:in64 DK:=GT.1.2.2.2.1;have PK:bA < w2.heap.size:=ltq (HS _ Hf) h2.st.base;have Gb:=Gs.out;have Ms:=SJ.out;have Td:Room (2+szN o1+(2+szN o2+szN r1)) s.node:=(show Room (1+(2+szN o1+(2+szN o2+szN r1))) s from HR.less (by omega)).after (zah s);have K1:=hdq (ZQ.1 DK f s.nodes n s.node v w2 S Z A1 A3 q1 q3 h2 HS.out ⟨Gb.1,Ms,Gb.2.2.1,MX⟩ (Td.less (by omega)) s1 s2);rw[<-QV.out]at K1;have qA:=hdq (show Room (2+szN o2) FS by rw[QV.out];exact(Td.less (show(2+szN o1)+(2+szN o2)<=_ by omega)).after (by have:=zaX C.sc C.ar (.cons k1 b1 o1 DK .nil) 0 f s.nodes n s.node;exact this));have H2:=hdq h2;have KE:=hdq Qa;have Jy:=hdq FL;obtain⟨e1,LF⟩:=nmq b1.len;obtain⟨e2,Ky⟩:=nmq o1.len;rw[<-LF]at c1 K1;rw[<-Ky]at ES K1;clear h2 Fg Qa FL GT s1 s2 Hf MX Gb Ms Td x2 xl LF Ky;go_wp2_with fail;refine K1.mono ?_;rintro _ w3 ⟨v3,rfl,h3,JF⟩;have Qb:=KE.trans JF;have J0:=JF.bk Jy.1 Jy.2
 have x2:=J0.1.cell 2;have xl:=J0.1.lt;simp only[getsL]at x2;have Lb:=CdR.second9 (CdR.keep (HH.same Qb HS.out) Lp.out);obtain⟨B1,p1,B3,p3,t1,t2,Hf,d0,d1,d2,d3⟩:=Lb.first9;have ZR:in64 Eg:=Lb.1.2.2.2.1;have W6:bA < w3.heap.size:=ltq (HS _ Hf) h3.st.base;have FZ:=hdq (ZQ.2 Eg s.nodes y n FS v3 w3 S Z B1 B3 p1 p3 h3 HS.out ⟨SJ.out,Gs.2.1,Gs.2.2.1,ZR⟩ qA.out t1 t2);rw[<-SK.out]at FZ;have K2:=hdq Qb;obtain⟨e3,QW⟩:=nmq b2.len;obtain⟨e4,QX⟩:=nmq o2.len;rw[<-QW]at d1 FZ;rw[<-QX]at d2 FZ;clear h3 JF Qb J0 Lb t1 t2 Hf ZR x2' xl' c0 c1 ES c3 PK QW QX;go_wp2_with fail;refine FZ.mono ?_;rintro _ w4 ⟨v4,rfl,h4,Nk⟩;have H4:=hdq (aiq h4 (K2.trans Nk));clear h4 Nk x2 xl d0 d1 d2 d3 W6;go_wp2_with fail;go_end0;exact⟨v4,rfl,H4.1,H4.2⟩
theorem zmX (C:RfK)(args:Exs)(k1:Int)(b1:Exs)(o1:Cds)(DK:Int)(k2:Int)(b2:Exs)(o2:Cds)(Eg:Int)(r1:Cds)(ih:FCd9 C k1 b1 o1)(ih2:FCd9 C k2 b2 o2):FCd9 C 11 args (.cons k1 b1 o1 DK (.cons k2 b2 o2 Eg r1)):=by
 intro at_ f y n s v w S Z A A2 c c2 h hS Gb hr hx Fv;obtain⟨al,Jh⟩:=nmq args.len;obtain⟨bA,oA,rfl,Hd⟩:=Fv.2.2 (Nat.succ_pos _);obtain⟨ol,KL⟩:=nmq ((Cds.cons k1 b1 o1 DK (.cons k2 b2 o2 Eg r1)).len );have ZO:1 < ol:=by rw[KL];exact Nat.succ_lt_succ (Nat.succ_pos _)
 have ZP:(0:Int) < (ol:Int):=by omega
 have qz:(1:Int) < (ol:Int):=by omega
 rw[<-Jh,<-KL];obtain⟨w1,Hc⟩:=nmq (w.alloc (.cells #[.int .u8 11,.slice A al c,.slice (some ⟨bA,oA,none⟩) ol c2,.int .i64 at_] 160));have Hi:Fr NoT w w1:=by rw[Hc];exact(Fr.refl _ _).alloc _
 have Hp:Bk w1 w.heap.size 160 #[.int .u8 11,.slice A al c,.slice (some ⟨bA,oA,none⟩) ol c2,.int .i64 at_]:=by rw[Hc];exact Bk.new _ _ _
 have Gk:¬MOwn C.b v w.heap.size:=h.st.new (lrq _);have Rh:Room (2+(2+szN o1+(2+szN o2+szN r1))) s:=hr;have HN:=hdq ((h.fr0 Hi).node (Rh.less (by omega)));have x2:=Hp.cell 2;have xl:=Hp.lt;simp only[getsL]at x2;have Ga:=hdq Hc;have Hn:=hdq Hi;have Gv:=hdq (aiq Hp (show ¬MOwn C.b v w.heap.size from Gk));have HH:=hdq h;have HS:=hdq hS;have Lp:=hdq Hd;have ZQ:=hdq (aiq ih ih2);have Gs:=hdq Gb;have Ms:in64 s.nodes:=hr.in_;have SJ:=hdq Ms;have HR:=hdq Rh;clear h hS Gb hr Rh hx Fv Jh KL Hc Hi Hp Gk Hd ih ih2 Ms;show Calls _ _ _ _ (FP9 C (wayC C.sc C.ar k2 b2 (zaw C.sc C.ar o2) Eg s.nodes y n (wayC C.sc C.ar k1 b1 (zaw C.sc C.ar o1) DK f y s.nodes s.node)) v w)
 obtain⟨FS,LE⟩:∃F:FgS,F=wayC C.sc C.ar k1 b1 (zaw C.sc C.ar o1) DK f y s.nodes s.node:=⟨_,rfl⟩;obtain⟨GS,Kq⟩:∃G:FgS,G=wayC C.sc C.ar k2 b2 (zaw C.sc C.ar o2) Eg s.nodes y n FS:=⟨_,rfl⟩;rw[<-LE,<-Kq];have QV:=hdq LE;have SK:=hdq Kq;clear LE Kq;go_enter Tryz.func190,Tryz.ntmps190;go_wp2_with fail;rw[<-Ga.out];refine HN.mono ?_;rintro _ w2 ⟨rfl,h2,Fg⟩;have Qa:=(Made.of (b:=C.b) (v:=v) Hn.out).trans Fg;have FL:=Fg.bk Gv.1 Gv.2;have x2':=FL.1.cell 2;have xl':=FL.1.lt;simp only[getsL]at x2';have GT:=CdR.keep (HH.same Qa HS.out) Lp.out;obtain⟨A1,q1,A3,q3,s1,s2,Hf,c0,c1,ES,c3⟩:=GT.first9;have MX:in64 DK:=GT.1.2.2.2.1;have PK:bA < w2.heap.size:=ltq (HS _ Hf) h2.st.base;have Gb:=Gs.out;have Ms:=SJ.out;have Td:Room (2+szN o1+(2+szN o2+szN r1)) s.node:=(show Room (1+(2+szN o1+(2+szN o2+szN r1))) s from HR.less (by omega)).after (zah s);have K1:=hdq (ZQ.1 DK f y s.nodes s.node v w2 S Z A1 A3 q1 q3 h2 HS.out ⟨Gb.1,Gb.2.1,Ms,MX⟩ (Td.less (by omega)) s1 s2);rw[<-QV.out]at K1;have qA:=hdq (show Room (2+szN o2) FS by rw[QV.out];exact(Td.less (show(2+szN o1)+(2+szN o2)<=_ by omega)).after (by have:=zaX C.sc C.ar (.cons k1 b1 o1 DK .nil) 0 f y s.nodes s.node;exact this));have H2:=hdq h2;have KE:=hdq Qa;have Jy:=hdq FL;obtain⟨e1,LF⟩:=nmq b1.len;obtain⟨e2,Ky⟩:=nmq o1.len;rw[<-LF]at c1 K1;rw[<-Ky]at ES K1;clear h2 Fg Qa FL GT s1 s2 Hf MX Gb Ms Td x2 xl LF Ky;go_wp2_with fail;refine K1.mono ?_;rintro _ w3 ⟨v3,rfl,h3,JF⟩;have Qb:=KE.trans JF;have J0:=JF.bk Jy.1 Jy.2
 have x2:=J0.1.cell 2;have xl:=J0.1.lt;simp only[getsL]at x2;have Lb:=CdR.second9 (CdR.keep (HH.same Qb HS.out) Lp.out);obtain⟨B1,p1,B3,p3,t1,t2,Hf,d0,d1,d2,d3⟩:=Lb.first9;have ZR:in64 Eg:=Lb.1.2.2.2.1;have W6:bA < w3.heap.size:=ltq (HS _ Hf) h3.st.base;have FZ:=hdq (ZQ.2 Eg s.nodes y n FS v3 w3 S Z B1 B3 p1 p3 h3 HS.out ⟨SJ.out,Gs.2.1,Gs.2.2.1,ZR⟩ qA.out t1 t2);rw[<-SK.out]at FZ;have K2:=hdq Qb;obtain⟨e3,QW⟩:=nmq b2.len;obtain⟨e4,QX⟩:=nmq o2.len;rw[<-QW]at d1 FZ;rw[<-QX]at d2 FZ;clear h3 JF Qb J0 Lb t1 t2 Hf ZR x2' xl' c0 c1 ES c3 PK QW QX;go_wp2_with fail;refine FZ.mono ?_;rintro _ w4 ⟨v4,rfl,h4,Nk⟩;have H4:=hdq (aiq h4 (K2.trans Nk));clear h4 Nk x2 xl d0 d1 d2 d3 W6;go_wp2_with fail;go_end0;exact⟨v4,rfl,H4.1,H4.2⟩
def RcS (g:Nat)(k:Int)(sl:Value)(a:Int)(W:World):Prop:=W.cell? ⟨g,0,none⟩=some (.int .u8 k)/\W.cell? ⟨g,1,none⟩=some sl/\W.cell? ⟨g,3,none⟩=some (.int .i64 a)
theorem zlJ (C:RfK)(k:Int)(hk:3<=k/\k<=8)(args:Exs)(of_:Cds):FCd9 C k args of_:=by
 intro at_ f y n s v w S Z A A2 c c2 h hS Gb hr hx Fv;have hy:wayC C.sc C.ar k args (zaw C.sc C.ar of_) at_ f y n s=(s.put C.sc C.ar f y at_ 6 0 k args).put C.sc C.ar f n at_ 6 0 (oppK k) args:=by
  unfold wayC;rw[if_neg (by omega),if_neg (by omega),if_neg (by omega),if_neg (by omega),if_neg (by omega)]
 rw[hy];have HX:=hdq (λ(W:World)(v':Value)(s':FgS)(h':C.At s' v' W)(hm:Made C.b v v' w W)(W2:World)(hf:Fr NoT W W2)=>zcm C.vs C.ars h.r1 h.r2 args W2 C.b S C.T Z C.Z A C.Av C.Aa c C.cv C.ca (λx hx=>ltq (ltq (hS x hx) h'.st.base) hf.size) ((h'.fr0 hf).names) (hx.imp λ_ _ hx=>ExR.keep ((h.same hm hS).trans (hf.same λx hx=>⟨ltq (hS x hx) h'.st.base,id⟩)) hx));obtain⟨al,Jh⟩:=nmq args.len;obtain⟨ol,KL⟩:=nmq of_.len;have MD:(numX C.sc C.ar args).len =al:=by rw[zaY,Jh]
 rw[<-Jh]at HX;rw[<-Jh,<-KL];obtain⟨w1,Hc⟩:=nmq (w.alloc (.cells #[.int .u8 k,.slice A al c,.slice A2 ol c2,.int .i64 at_] 160));have Hi:Fr NoT w w1:=by rw[Hc];exact(Fr.refl _ _).alloc _
 have Hp:Bk w1 w.heap.size 160 #[.int .u8 k,.slice A al c,.slice A2 ol c2,.int .i64 at_]:=by rw[Hc];exact Bk.new _ _ _
 have Gk:¬MOwn C.b v w.heap.size:=h.st.new (lrq _);have Hk:in8 k:=⟨by omega,by omega⟩;have Gs:=hdq Gb;have HS:=hdq (show ∀(W:World)(v':Value),Made C.b v v' w1 W->RcS w.heap.size k (.slice A al c) at_ W from λW v' hm=>
  have hb:=(hm.bk Hp Gk).1
  ⟨hb.cell 0,hb.cell 1,hb.cell 3⟩)
 have Gv:=hdq (aiq Hp Gk);have H1:=hdq (h.fr0 Hi);have Ga:=hdq Hc;have Hn:=hdq Hi;have uc:=hdq (aiq hk Hk);have yM:=hdq Jh;have XT:=hdq MD;have yN:=hdq (zkr k hk);have e1:(k==1)=false:=by simp;omega
 have e2:(k==2)=false:=by simp;omega
 have e9:(k==9)=false:=by simp;omega
 have e10:(k==10)=false:=by simp;omega
 have e11:(k==11)=false:=by simp;omega
 obtain⟨S1,Ko⟩:∃Fz:FgS,Fz=s.put C.sc C.ar f y at_ 6 0 k args:=⟨_,rfl⟩;rw[<-Ko];obtain⟨S2,Pi⟩:∃Fz:FgS,Fz=S1.put C.sc C.ar f n at_ 6 0 (oppK k) args:=⟨_,rfl⟩;rw[<-Pi];have Ny:=hdq Ko;have Mx:=hdq Pi;obtain⟨op,qB⟩:=nmq (oppK k);rw[<-qB]at yN;have yO:=hdq qB;clear h hS Gb hr hx Fv Jh KL Hc Hi Hp Gk hk Hk MD hy Ko Pi qB;go_enter Tryz.func190,Tryz.ntmps190;go_wp2_with fail;rw[<-Ga.out];refine zad (RcS w.heap.size k (.slice A al c) at_) (λi=>decide (i < 12)) (by kernel_rfl) (HS _ _ (Made.of (Fr.refl NoT w1).drew)) (λhHeld=>?_);refine zaa 0 ?_;simp only[putsL];refine zaa 1 ?_;simp only[putsL];refine zaa 2 ?_;simp only[putsL];refine zaa 3 ?_;simp only[putsL];refine zaD 4 hHeld ?_;simp only[putsL];refine zaa 5 ?_;simp only[putsL];refine zaa 6 ?_;simp only[putsL];refine zaD 7 hHeld ?_;simp only[putsL];refine zaa 10 ?_;simp only[putsL];refine zaD 11 hHeld ?_;simp only[putsL];refine zab 8 rfl (by kernel_rfl) (λKK hK=>?_);go_simp;go_at_call 188;refine(HX w1 v s H1.out (Made.of Hn.out) _ (Fr.refl NoT w1).drew).mono ?_;rintro _ w2 ⟨B1,q1,rfl,Ft,Gd⟩;rw[XT.out];have Hy:=hdq ((Fr.refl NoT w1).drew.trans Gd);have J7:=hdq (show SlR (λb o=>ExR w2 (New w1.heap.size w2) True (numX C.sc C.ar args) b o) args.len 64 B1 q1 by
  rw[zaY]at Ft;exact Ft)
 try dsimp only
 refine hK _ _ (λ_ _=>HS _ _ (Made.of Hy.out)) ?_;clear hK KK Ft Gd;try simp only[putsL]
 refine zaa 9 ?_;simp only[putsL];refine zab 12 rfl (by kernel_rfl) (λKK hK=>?_);go_simp;go_at_call 141;refine(H1.edge1 Hy.out f y at_ 6 0 k ⟨Gs.1,Gs.2.1,by unfold in8;decide,by unfold in64;decide,uc.2,Gs.2.2.2⟩ args B1 q1 al yM.symm J7.out).mono ?_;rw[<-Ny.out];rintro _ w3 ⟨v3,rfl,h3,JF⟩;have H3:=hdq h3;have K2:=hdq JF;try dsimp only
 refine hK _ _ (λh=>absurd h (by decide)) ?_;clear hK KK h3 JF hHeld;try simp only[putsL]
 refine zai (by kernel_rfl) ?_;go_wp2_with fail;refine zad (RcS w.heap.size k (.slice A al c) at_) (λ_=>true) (by kernel_rfl) (HS _ _ (K2.trans (Made.of (Fr.refl NoT w3).drew))) (λhHeld=>?_);refine zaa 0 ?_;simp only[putsL];refine zaa 1 ?_;simp only[putsL];refine zaa 2 ?_;simp only[putsL];refine zaa 3 ?_;simp only[putsL];refine zaD 4 hHeld ?_;simp only[putsL];refine zaa 6 ?_;simp only[putsL];refine zaa 7 ?_;simp only[putsL];refine zaD 8 hHeld ?_;simp only[putsL];refine zaa 11 ?_;simp only[putsL];refine zaD 12 hHeld ?_;simp only[putsL];refine zab 5 rfl (by kernel_rfl) (λKK hK=>?_);go_simp;go_at_call 219;refine(yN _).mono ?_;rintro _ w4 ⟨rfl,GB⟩;have GL:=hdq ((Fr.refl NoT w3).drew.trans GB);try dsimp only
 refine hK _ _ (λ_ _=>HS _ _ (K2.trans (Made.of GL.out))) ?_;clear hK KK GB;try simp only[putsL]
 refine zab 9 rfl (by kernel_rfl) (λKK hK=>?_);go_simp;go_at_call 188;refine(HX w3 v3 S1 H3.out ((Made.of Hn.out).trans K2.out) _ GL.out).mono ?_;rintro _ w5 ⟨B1,q1,rfl,qC,Hs⟩;rw[XT.out];have Hx:=hdq (GL.trans Hs);have qD:=hdq (show SlR (λb o=>ExR w5 (New w3.heap.size w5) True (numX C.sc C.ar args) b o) args.len 64 B1 q1 by
  rw[zaY]at qC;exact qC.imp λ_ _ h=>ExR.more (λb hb=>⟨leq9 GL.size hb.1,hb.2⟩) h)
 try dsimp only
 refine hK _ _ (λ_ _=>HS _ _ (K2.trans (Made.of Hx.out))) ?_;clear hK KK qC Hs;try simp only[putsL]
 refine zaa 10 ?_;simp only[putsL];refine zab 13 rfl (by kernel_rfl) (λKK hK=>?_);go_simp;go_at_call 141;refine(H3.edge1 Hx.out f n at_ 6 0 op ⟨Gs.1,Gs.2.2.1,by unfold in8;decide,by unfold in64;decide,by rw[yO.out];exact zmV k,Gs.2.2.2⟩ args B1 q1 al yM.symm qD.out).mono ?_;rw[yO.out,<-Mx.out];rintro _ w6 ⟨v6,rfl,h6,Qy⟩;have H6:=hdq (aiq h6 (((Made.of Hn.out).trans K2.out).trans Qy));try dsimp only
 refine hK _ _ (λ_ _=>HS _ _ (K2.trans Qy)) ?_;clear hK KK h6 Qy hHeld;try simp only[putsL]
 refine zai (by kernel_rfl) ?_;go_wp2_with fail;go_end0;exact⟨v6,rfl,H6.1,H6.2⟩
theorem zlK (C:RfK)(k:Int)(args:Exs)(of_:Cds)(hw:wfD k args of_)(ih:∀(i:Nat)(k:Int)(b:Exs)(o:Cds)(at_:Int)(r:Cds),Cds.drop i of_= .cons k b o at_ r->FCd9 C k b o):FCd9 C k args of_:=by
 obtain⟨h1,h2,h3,h4,h5⟩:=hw;have hk:k=1\/k=2\/k=9\/k=10\/k=11\/(3<=k/\k<=8):=by omega
 rcases hk with rfl|rfl|rfl|rfl|rfl|hk
 ·exact zlG C _ _
 ·exact zmW C _ _
 ·obtain⟨k1,b1,o1,DK,r1,hd⟩:=Cds.drop_cons (k:=0) (xs:=of_) (by have:=h4 rfl;omega);have Kt:of_= .cons k1 b1 o1 DK r1:=hd;subst Kt;exact zlH C args k1 b1 o1 DK r1 (ih 0 _ _ _ _ _ rfl)
 ·obtain⟨k1,b1,o1,DK,r1,hd⟩:=Cds.drop_cons (k:=0) (xs:=of_) (by have:=h5 (.inl rfl);omega);have Kt:of_= .cons k1 b1 o1 DK r1:=hd;subst Kt;obtain⟨k2,b2,o2,Eg,r2,hd⟩:=Cds.drop_cons (k:=0) (xs:=r1) (by have:=h5 (.inl rfl);simp only[Cds.len]at this;omega);have Kt:r1= .cons k2 b2 o2 Eg r2:=hd;subst Kt;exact zlI C args k1 b1 o1 DK k2 b2 o2 Eg r2 (ih 0 _ _ _ _ _ rfl) (ih 1 _ _ _ _ _ rfl)
 ·obtain⟨k1,b1,o1,DK,r1,hd⟩:=Cds.drop_cons (k:=0) (xs:=of_) (by have:=h5 (.inr rfl);omega);have Kt:of_= .cons k1 b1 o1 DK r1:=hd;subst Kt;obtain⟨k2,b2,o2,Eg,r2,hd⟩:=Cds.drop_cons (k:=0) (xs:=r1) (by have:=h5 (.inr rfl);simp only[Cds.len]at this;omega);have Kt:r1= .cons k2 b2 o2 Eg r2:=hd;subst Kt;exact zmX C args k1 b1 o1 DK k2 b2 o2 Eg r2 (ih 0 _ _ _ _ _ rfl) (ih 1 _ _ _ _ _ rfl)
 ·exact zlJ C k hk args of_
theorem zcc (C:RfK):∀xs:Cds,wfC xs->∀(i:Nat)(k:Int)(b:Exs)(o:Cds)(at_:Int)(r:Cds),Cds.drop i xs= .cons k b o at_ r->FCd9 C k b o
 | .nil,_=>λi _ _ _ _ _ hd=>by cases i<;>simp[Cds.drop]at hd
 | .cons k args of_ at_ rest,h=>λi _ _ _ _ _ hd=>by
  cases i with
  |zero=>
   simp only[Cds.drop]at hd;injection hd with e1 e2 e3 e4 e5;subst e1 e2 e3 e4 e5;exact zlK C k args of_ h.1 (zcc C of_ h.2.1)
  |succ i=>
   simp only[Cds.drop]at hd;exact zcc C rest h.2.2 i _ _ _ _ _ hd
