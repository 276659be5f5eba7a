/- facetroomref12: renamed, exprs: names replaced by two lists of names. -/
import Derived.Test.YtmopichdofgndaaGreatDoorJnBa
import Derived.Test.YtmopichdofgndaaGreatDoorJnCl
set_option linter.all false
set_option maxHeartbeats 1600000
set_option maxRecDepth 100000
namespace Go.Proofs.YtmopichdofgndaaGreatDoor
open Go.RowKit Go.Shelf
theorem ba_eq {a b:ByteArray}:(a.toList==b.toList)=true↔a=b:=by
 rw[beq_iff_eq,zcg];refine⟨λh=>?_,λh=>by rw[h]⟩;have h2:a.data=b.data:=Array.toList_inj.1 h;cases a;cases b;simp at h2;rw[h2]
def TxSl (w:World)(T:Nat->Prop)(l:List ByteArray)(A:Option Addr)(c:Nat):Prop:=
 l.length<=c/\c<=9223372036854775807/\(0 < l.length->∃b o,A=some ⟨b,o,none⟩/\T b/\∀(i:Nat)(s:ByteArray),l[i]?=some s->w.cell? ⟨b,o+i,none⟩=some (.string s))
theorem TxSl.keep {w w':World}{T T':Nat->Prop}{l:List ByteArray}{A:Option Addr}{c:Nat}(h:TxSl w T l A c)(hT:∀b,T b->T' b)(hs:SameS T w w'):TxSl w' T' l A c:=
 ⟨h.1,h.2.1,λhp=>by
  obtain⟨b,o,e,hb,hh⟩:=h.2.2 hp;exact⟨b,o,e,hT _ hb,λi s hi=>((hs ⟨b,o+i,none⟩ hb).1).trans (hh i s hi)⟩⟩
def renL:List ByteArray->List ByteArray->ByteArray->ByteArray
 |f::fs,t::ts,nm=>if f=nm then t else renL fs ts nm
 |_,_,nm=>nm
theorem zkm:∀ {fs ts:List ByteArray} {nm:ByteArray} {i:Nat} {t:ByteArray},(∀(j:Nat)(s:ByteArray),j < i->fs[j]?=some s->s≠nm)->fs[i]?=some nm->ts[i]?=some t->renL fs ts nm=t
 |f::fs,t0::ts,nm,0,t,_,h1,h2=>by
  simp only[List.getElem?_cons_zero,Option.some.injEq]at h1 h2;simp[renL,h1,h2]
 |f::fs,t0::ts,nm,i+1,t,hb,h1,h2=>by
  have h0:=hb 0 f (by omega) rfl;simp only[List.getElem?_cons_succ]at h1 h2;simp only[renL,if_neg h0];exact zkm (i:=i) (λj s hj hs=>hb (j+1) s (by omega) (by simpa using hs)) h1 h2
 | [],_,_,_,_,_,h1,_=>by simp at h1
 |_::_, [],_,_,_,_,_,h2=>by simp at h2
theorem zkn:∀ {fs ts:List ByteArray} {nm:ByteArray},(∀(j:Nat)(s:ByteArray),fs[j]?=some s->s≠nm)->renL fs ts nm=nm
 | [],ts,nm,_=>by cases ts<;>rfl
 |f::fs, [],nm,_=>rfl
 |f::fs,t::ts,nm,h=>by
  simp only[renL,if_neg (h 0 f rfl)];exact zkn λj s hs=>h (j+1) s (by simpa using hs)
structure NmR (w:World)(T:Nat->Prop)(n:Nms)(fs ts:List ByteArray)(Af:Option Addr)(cf:Nat)(At:Option Addr)(ct:Nat):Prop where
 from_:TxSl w T fs Af cf
 to_:TxSl w T ts At ct
 len:fs.length=ts.length
 says:∀nm,renL fs ts nm=ofN n nm
theorem NmR.keep {w w':World}{T T':Nat->Prop}{n:Nms}{fs ts:List ByteArray}{Af At:Option Addr}{cf ct:Nat}(h:NmR w T n fs ts Af cf At ct)(hT:∀b,T b->T' b)(hs:SameS T w w'):NmR w' T' n fs ts Af cf At ct:=
 ⟨h.from_.keep hT hs,h.to_.keep hT hs,h.len,h.says⟩
theorem zd0 (n:Nms)(fs ts:List ByteArray)(Af At:Option Addr)(cf ct:Nat)(T:Nat->Prop)(nm:ByteArray)(w:World)(hx:NmR w T n fs ts Af cf At ct)(hB:∀b,T b->b < w.heap.size):
  Calls Tryz.prog 94 #[.string nm,.slice Af fs.length cf,.slice At ts.length ct] w λe w'=>e= .returned (.string (ofN n nm))/\w'=w:=by
 have ZN:=leq9 hx.from_.1 hx.from_.2.1;rw[<-hx.len];have HX:=hdq hx;obtain⟨m,hm⟩:=nmq fs.length;rw[<-hm]at ZN ⊢;have HM:=hdq hm;have DB:m<=ct:=by rw[hm,hx.len];exact hx.to_.1
 have DC:m<=cf:=by rw[hm];exact hx.from_.1
 obtain⟨out,QD⟩:=nmq (ofN n nm);rw[<-QD];have HO:=hdq (show renL fs ts nm=out by rw[hx.says,QD]);clear hx hm QD;go_enter Tryz.func94,Tryz.ntmps94;go_wp2_with fail;go_loop [7] (λi=>∃k:Nat,k<=m/\i= .int .i64 k/\Hid (∀(j:Nat)(s:ByteArray),j < k->fs[j]?=some s->s≠nm)) (λi=>m - (intOf i).toNat);case atStart=>exact⟨0,Nat.zero_le _,rfl,hdq λj s hj=>absurd hj (by omega)⟩
 case round=>
  obtain⟨k,hk,rfl,Ha⟩:=hrel;by_cases Hr:k < m
  ·obtain⟨s,hs⟩:∃s,fs[k]?=some s:=⟨_,List.getElem?_eq_getElem (by rw[<-HM.out];exact Hr)⟩;obtain⟨t,ht⟩:∃s,ts[k]?=some s:=⟨_,List.getElem?_eq_getElem (by rw[<-HX.len,<-HM.out];exact Hr)⟩;obtain⟨b,o,rfl,hb,Hd⟩:=HX.from_.2.2 (by rw[<-HM.out];omega);obtain⟨b',o',rfl,Je,Fp⟩:=HX.to_.2.2 (by rw[<-HX.len,<-HM.out];omega);have c0:=Hd k s hs;have c1:=Fp k t ht;have bl:b < w.heap.size:=hB _ hb;have bl':b' < w.heap.size:=hB _ Je;by_cases W4:s=nm
   ·subst W4;have qw:(s.toList==s.toList)=true:=by simp
    have HF:=hdq (show out=t by rw[<-HO.out];exact zkm Ha.out hs ht);clear hs ht Hd Fp Ha;go_wp2_with fail;go_ret;exact⟨by rw[HF.out];rfl,rfl⟩
   ·have HN:=hdq (show ∀(j:Nat)(z:ByteArray),j < k+1->fs[j]?=some z->z≠nm from λj z hj hz=>by
     by_cases NM:j < k
     ·exact Ha j z NM hz
     ·obtain rfl:j=k:=by omega
      rw[hs]at hz;rw[<-Option.some.inj hz];exact W4)
    have qw:(s.toList==nm.toList)=false:=by rw[Bool.eq_false_iff];intro h;exact W4 (ba_eq.1 h)
    clear hs ht Hd Fp Ha;go_wp2_with fail;go_round;case rel=>exact⟨k+1,by omega,by go_num,HN⟩
    case measure=>simp[intOf];omega
  ·have HF:=hdq (show out=nm by
    rw[<-HO.out];exact zkn λj s hs=>Ha j s (by have:=(List.getElem?_eq_some_iff.1 hs).1;rw[<-HM.out]at this;omega) hs)
   clear Ha;go_wp2_with fail;go_ret;exact⟨by rw[HF.out];rfl,rfl⟩
structure RxX (n:Nms)(W:World)(xs:Exs)(v:Value)(wr:World)(acc:List Ex)(cs:List Value)(k:Nat):Prop where
 row:wr.ownsRow W.heap.size 41 5 v acc.length cs
 rows:RowR oneX wr (NewR W.heap.size v wr) acc cs
 fr:Fr NoT W wr
 eq:zeb acc (zar n (Exs.drop k xs))=zar n xs
 len:acc.length=k
def R2xC (xs:Exs):Prop:=∀(n:Nms)(W:World)(S:Nat->Prop)(Z:Prop)(A:Option Addr)(c:Nat)(fs ts:List ByteArray)(Af At:Option Addr)(cf ct:Nat)(T:Nat->Prop),(∀b,S b->b < W.heap.size)->(∀b,T b->b < W.heap.size)->NmR W T n fs ts Af cf At ct->SlR (λb o=>ExR W S Z xs b o) xs.len 64 A c->Calls Tryz.prog 95 #[.slice A xs.len c,.slice Af fs.length cf,.slice At ts.length ct] W (BxP (zar n xs) W)
def R2xI (xs:Exs):Prop:=∀(i:Nat)(a0:Int)(a1:ByteArray)(a2:Int)(a3:Exs)(a4:Int)(ar:Exs),Exs.drop i xs= .cons a0 a1 a2 a3 a4 ar->R2xC a3
theorem zko (xs:Exs)(Ho:R2xI xs):R2xC xs:=by
 intro n w S Z A c fs ts Af At cf ct T hS hB Fi hx;have F4:=hdq Fi;obtain⟨nf,P8⟩:=nmq fs.length;obtain⟨nt,P9⟩:=nmq ts.length;rw[<-P8,<-P9];have MC:=hdq (aiq P8 P9);obtain⟨i0,hi,Fe,Gh,Gn⟩:=info_parts zfH;have HI:=hdq (aiq hi (aiq Fe (aiq Gh Gn)));have hl:xs.len<=9223372036854775807:=leq9 hx.1 hx.2.1.1;have HA:=hdq Ho;have HX:=hdq hx;have HS:=hdq hS;obtain⟨m,hm⟩:=nmq xs.len;have Ji:=hdq (show m*64<=140737488355328 from by rw[hm];exact hx.2.1.2);rw[<-hm]at hl ⊢;have HM:=hdq hm;have JJ:=hdq (show RxX n w xs (.slice none 0 0) w [] [] 0 from⟨World.ownsRow_nil _ _ _ _,rfl,Fr.refl _ _,rfl,rfl⟩);clear Ho hx hS hm hi Fe Gh Gn Fi P8 P9;go_enter Tryz.func95,Tryz.ntmps95;go_wp2_with fail;go_loopw [7,8] (λv i wr=>∃k:Nat,k<=m/\i= .int .i64 k/\∃(acc:List Ex)(cs:List Value),Hid (RxX n w xs v wr acc cs k)) (λv i _=>m - (intOf i).toNat);case atStart=>exact⟨0,Nat.zero_le _,rfl, [], [],JJ⟩
 case round=>
  clear JJ;obtain⟨k,hk,rfl,acc,cs,hb⟩:=hrel;by_cases Hr:k < m
  ·obtain⟨a0,a1,a2,a3,a4,ar,hd⟩:=Exs.drop_cons (show k < xs.len from by rw[<-HM.out];exact Hr);obtain⟨b,o,rfl,Hd⟩:=HX.2.2 (by rw[<-HM.out];omega);have Hb:=(ExR.keep (hb.fr.same λb hb=>⟨HS b hb,id⟩) Hd).drop k;rw[hd]at Hb;obtain⟨⟨Hf,_,r0,r1,r2,c0,c1,c2,c4⟩,⟨A3,q3,c3,s3⟩,_⟩:=Hb;have Gf:b < wr.heap.size:=ltq (HS _ Hf) hb.fr.size;have Hl:(k:Int) < (m:Int):=by omega
   have Fb:(0:Int)<=(k:Int):=by omega
   obtain⟨l3,Gz⟩:=nmq a3.len;rw[<-Gz]at c3;obtain⟨w5,GE⟩:=nmq (wr.alloc (.cells #[.int .u8 a0,.string a1,.int .i64 a2,.slice A3 l3 q3,.int .i64 a4] 41));have Hs:Fr NoT wr w5:=by rw[GE];exact(Fr.refl _ _).alloc _
   have Hm:Bk w5 wr.heap.size 41 #[.int .u8 a0,.string a1,.int .i64 a2,.slice A3 l3 q3,.int .i64 a4]:=by
    rw[GE];exact Bk.new _ _ _
   have h7:=λ(W:World)(hW:Fr NoT wr W)=>HA k a0 a1 a2 a3 a4 ar hd n W S Z A3 q3 fs ts Af At cf ct T (λb h=>ltq (ltq (HS b h) hb.fr.size) hW.size) (λb h=>ltq (hB b h) (hb.fr.trans hW).size) (F4.keep (λ_ h=>h) ((hb.fr.trans hW).same λb h=>⟨hB b h,id⟩)) (s3.imp λ_ _ hx=>ExR.keep (hW.same λb h=>⟨ltq (HS b h) hb.fr.size,id⟩) hx);have h6:=zd0 n fs ts Af At cf ct T a1 w5 (F4.keep (λ_ h=>h) ((hb.fr.trans Hs).same λb h=>⟨hB b h,id⟩)) (λb h=>ltq (hB b h) (hb.fr.trans Hs).size);rw[<-MC.1,<-MC.2]at h6;rw[<-Gz,<-MC.1,<-MC.2]at h7;have H6:=hdq h6;have XR:=hdq h7;have HD:=hdq hd;have GO:=hdq Hm;have Hx:=hdq Hs;have JD:=hdq GE;have HR:=hdq (aiq r0 (aiq r1 r2));obtain⟨nm6,Uf⟩:=nmq (if a0=2 then ofN n a1 else a1);have W5:=hdq Uf;have Pd:((a0==2)=true/\Hid (nm6=ofN n a1))\/((a0==2)=false/\Hid (nm6=a1)):=by
    by_cases h:a0=2
    ·exact .inl ⟨by simpa using h,by rw[Uf,if_pos h];exact hdq rfl⟩
    ·exact .inr ⟨by simpa using h,by rw[Uf,if_neg h];exact hdq rfl⟩
   clear hd Hd Hf s3 r0 r1 r2 Gz h7 h6 Hm Hs GE Uf;rcases Pd with⟨h2,Ug⟩|⟨h2,Ug⟩
   case' inl=>
    go_wp2_with fail;rw[<-JD.out];refine H6.mono ?_;rintro _ wz ⟨rfl,MM⟩;rw[MM,<-Ug.out];clear MM wz;obtain⟨w6,GM⟩:=nmq (w5.setCell ⟨wr.heap.size,1,none⟩ (.string nm6));have y1:=GO.cell 1;have z1:=GO.frozen 1;have yl:=GO.lt;have Fy:Bk w6 wr.heap.size 41 #[.int .u8 a0,.string nm6,.int .i64 a2,.slice A3 l3 q3,.int .i64 a4]:=by
     have:=GO.set_ 1 (.string nm6);rw[GM];simpa using this
    have Fk:Fr NoT wr w6:=by rw[GM];exact Fr.high Hx.out (lrq _) _ _
    have y3:w6.cell? ⟨wr.heap.size,3,none⟩=some (.slice A3 l3 q3):=by
     have:=Fy.cell 3;simpa using this
    rw[GM]at y3;simp only[getsL]at y1;have Lw:=hdq Fy;have GF:=hdq Fk;have Lx:=hdq GM;have H7:=hdq (XR w6 Fk);clear Fy Fk GM JD c0 c1 c2 c3 c4 Gf;go_wp2_with fail;rw[<-Lx.out];clear y1 z1 yl y3
   case' inr=>
    obtain⟨w6,GM⟩:=nmq w5;have Lw:=hdq (show Bk w6 wr.heap.size 41 #[.int .u8 a0,.string nm6,.int .i64 a2,.slice A3 l3 q3,.int .i64 a4] by rw[GM,Ug.out];exact GO.out);have GF:=hdq (show Fr NoT wr w6 by rw[GM];exact Hx.out);have Lx:=hdq GM;have H7:=hdq (XR w6 GF.out);clear GM;go_wp2_with fail;rw[<-JD.out,<-Lx.out];clear c0 c1 c2 c3 c4 Gf JD
   all_goals
    refine H7.mono ?_;rintro _ w7 ⟨A4,q4,rfl,s4,Gw⟩;have GK:=Lw.fr0 Gw;have x0:=GK.cell 0;have x1:=GK.cell 1;have x2:=GK.cell 2;have x3:=GK.cell 3;have x4:=GK.cell 4;have z3:=GK.frozen 3;have xl:=GK.lt;simp only[getsL]at x0 x1 x2 x3 x4;obtain⟨l4,Gy⟩:=nmq ((zar n a3).len );rw[<-Gy];have Qh:=hdq Gy
    -- the world ahead of the append
    obtain⟨w8,GG⟩:=nmq (w7.setCell ⟨wr.heap.size,3,none⟩ (.slice A4 l4 q4));obtain⟨w9,FY⟩:=nmq (w8.alloc (.cells #[.int .u8 a0,.string nm6,.int .i64 a2,.slice A4 l4 q4,.int .i64 a4] 41));have LX:Fr (λb=>b=wr.heap.size) w7 w9:=by rw[FY,GG];exact(Fr.own (Fr.refl _ _) 3 _).alloc _
    have Gm:Fr NoT wr w9:=by rw[FY,GG];exact(Fr.high (GF.trans Gw) (lrq _) _ _).alloc _
    have FM:Bk w9 w7.heap.size 41 ([.int .u8 a0,.string nm6,.int .i64 a2,.slice A4 l4 q4,.int .i64 a4]:List Value).toArray :=by rw[FY];exact Bk.new_at _ _ _ (by rw[GG];simp)
    have Fl:=World.ownsRow.kept (w':=w9) hb.row (row:=none) ⟨Gm.os,Gm.tape,Gm.output,Gm.size,λi hi _=>Gm.block i hi id⟩ (Classical.em _);have Jj:=hdq Fl;have LW:=hdq FM;have LY:=hdq LX;have FT:=hdq Gm;have JG:=hdq Gw;have Lj:=hdq s4;have LZ:w.heap.size<=w9.heap.size:=leq9 hb.fr.size Gm.size;have FN:(acc.length+1)*64<=140737488355328:=by have:=Ji.out;have:=hb.len;omega
    have Jt:acc.length+1<=9223372036854775807:=by have:=hb.len;omega
    have NL:=hdq FY;have K8:=hdq GG;clear Gy GG FY LX Gm FM Fl GK Gw s4;go_wp2_with (at_builtin;rw[<-K8.out,<-NL.out];refine zal _ rfl _ _ 36 rfl w.heap.size 41 i0 (.agg #[.int .u8 0,.string ⟨#[]⟩,.int .i64 0,.slice none 0 0,.int .i64 0]) 5 64 Tryz.underlying36 HI.1 HI.2.1 HI.2.2.1 HI.2.2.2 rfl (by decide) _ _ _ rfl Jj.out ⟨w7.heap.size,0,none⟩ 1 1 _ rfl rfl LW.newsL ?c2 (by decide) ?c3 FN LZ ?_);case c2=>
     intro u hu;simp only[List.mem_cons,List.not_mem_nil,or_false]at hu;rcases hu with rfl|rfl|rfl|rfl|rfl<;>rfl
    case c3=>unfold maxLen;omega
    intro v' w10 Hg Hh GY;have Wd:wr.heap.size < w7.heap.size:=xl;have Hq:=RowR.step za4 hb.row hb.fr.size hb.rows FT.out (y:=(⟨a0,nm6,a2,zar n a3,a4⟩:Ex)) (zs:= [.int .u8 a0,.string nm6,.int .i64 a2,.slice A4 l4 q4,.int .i64 a4])
     ⟨A4,q4,by rw[Qh.out],HR.1,HR.2.1,HR.2.2,Lj.imp λ_ _ h=>ExR.more (λb hb=>⟨by have h1:=hb.1;have:=GF.size;omega,by have h2:=hb.2;have:=LY.size;omega⟩) (ExR.keep (LY.same λb hb=>⟨hb.2,λe=>by have e:b=wr.heap.size:=e;have h1:=hb.1;have:=Lw.lt;omega⟩) h)⟩ Hh GY
    have hlen:(acc++ [(⟨a0,nm6,a2,zar n a3,a4⟩:Ex)]).length =acc.length+1:=by simp
    have F8:=hdq (show RxX n w xs v' w10 (acc++ [⟨a0,nm6,a2,zar n a3,a4⟩]) (cs++ [.int .u8 a0,.string nm6,.int .i64 a2,.slice A4 l4 q4,.int .i64 a4]) (k+1)from
     ⟨by rw[hlen];exact Hg,Hq.1,Fr.back1 hb.fr Hq.2 (lrq _),by
      rw[zbA,Exs.drop_succ k xs HD.out,<-hb.eq,HD.out,W5.out];rfl,by rw[hlen,hb.len]⟩)
    clear Hg Hh GY Hq hlen FN Jt LZ x0 x1 x2 x3 x4 z3 xl;go_wp2_with fail;go_roundw;case rel=>exact⟨k+1,by omega,by go_num,_,_,F8⟩
    case measure=>simp[intOf];omega
  ·have Hl:¬(k:Int) < (m:Int):=by omega
   have JK:k=m:=by omega
   have hle:(zar n xs).len =acc.length:=by rw[zaC,<-HM.out,hb.len,JK]
   have heq:zar n xs=zd9 acc:=by
    rw[<-zbB,<-hb.eq,Exs.drop_nil (by rw[<-HM.out];omega)];rfl
   obtain⟨A',c',he,Fh⟩:=RowR.slice za4 (sz:=64) hb.row hb.rows (by rw[hb.len,JK];exact Ji.out) (P:=λb o=>ExR wr (New w.heap.size wr) True (zar n xs) b o) λg hg hr hc=>by
    rw[heq];exact rowX (o:=0) hg hr λj u hj=>by rw[Nat.zero_add];exact hc j u hj
   have HE:=hdq he;have J7:=hdq Fh;have K9:=hdq hle;clear heq hle he Fh;go_wp2_with fail;go_ret;refine⟨A',c',?_,?_,hb.fr⟩
   ·rw[K9.out,HE.out];rfl
   ·rw[K9.out];exact J7.out
theorem zfs:∀xs:Exs,R2xI xs
 | .nil,i,_,_,_,_,_,_,h=>by cases i<;>simp[Exs.drop]at h
 | .cons k nm n args at_ rest,0,a0,a1,a2,a3,a4,ar,h=>by
  simp only[Exs.drop,Exs.cons.injEq]at h;obtain⟨_,_,_,rfl,_,_⟩:=h;exact zko _ (zfs _)
 | .cons k nm n args at_ rest,i+1,a0,a1,a2,a3,a4,ar,h=>by
  simp only[Exs.drop]at h;exact zfs rest i a0 a1 a2 a3 a4 ar h
theorem zck (xs:Exs):R2xC xs:=zko xs (zfs xs)
structure RcX (n:Nms)(W:World)(xs:Cds)(v:Value)(wr:World)(acc:List Cn)(cs:List Value)(k:Nat):Prop where
 row:wr.ownsRow W.heap.size 160 4 v acc.length cs
 rows:RowR oneC wr (NewR W.heap.size v wr) acc cs
 fr:Fr NoT W wr
 eq:zgJ acc (zaJ n (Cds.drop k xs))=zaJ n xs
 len:acc.length=k
def R2cC (xs:Cds):Prop:=∀(n:Nms)(W:World)(S:Nat->Prop)(Z:Prop)(A:Option Addr)(c:Nat)(fs ts:List ByteArray)(Af At:Option Addr)(cf ct:Nat)(T:Nat->Prop),(∀b,S b->b < W.heap.size)->(∀b,T b->b < W.heap.size)->NmR W T n fs ts Af cf At ct->SlR (λb o=>CdR W S Z xs b o) xs.len 64 A c->Calls Tryz.prog 96 #[.slice A xs.len c,.slice Af fs.length cf,.slice At ts.length ct] W (BcP (zaJ n xs) W)
def R2cI (xs:Cds):Prop:=∀(i:Nat)(a0:Int)(a1:Exs)(a2:Cds)(a3:Int)(ar:Cds),Cds.drop i xs= .cons a0 a1 a2 a3 ar->R2cC a2
theorem zkp (xs:Cds)(Ho:R2cI xs):R2cC xs:=by
 intro n w S Z A c fs ts Af At cf ct T hS hB Fi hx;have F4:=hdq Fi;obtain⟨nf,P8⟩:=nmq fs.length;obtain⟨nt,P9⟩:=nmq ts.length;rw[<-P8,<-P9];have MC:=hdq (aiq P8 P9);obtain⟨i0,hi,Fe,Gh,Gn⟩:=info_parts ziZ;have HI:=hdq (aiq hi (aiq Fe (aiq Gh Gn)));have hl:xs.len<=9223372036854775807:=leq9 hx.1 hx.2.1.1;have HA:=hdq Ho;have HX:=hdq hx;have HS:=hdq hS;obtain⟨m,hm⟩:=nmq xs.len;have Ji:=hdq (show m*64<=140737488355328 from by rw[hm];exact hx.2.1.2);rw[<-hm]at hl ⊢;have HM:=hdq hm;have JJ:=hdq (show RcX n w xs (.slice none 0 0) w [] [] 0 from⟨World.ownsRow_nil _ _ _ _,rfl,Fr.refl _ _,rfl,rfl⟩);clear Ho hx hS hm hi Fe Gh Gn Fi P8 P9;go_enter Tryz.func96,Tryz.ntmps96;go_wp2_with fail;go_loopw [7,8] (λv i wr=>∃k:Nat,k<=m/\i= .int .i64 k/\∃(acc:List Cn)(cs:List Value),Hid (RcX n w xs v wr acc cs k)) (λv i _=>m - (intOf i).toNat);case atStart=>exact⟨0,Nat.zero_le _,rfl, [], [],JJ⟩
 case round=>
  clear JJ;obtain⟨k,hk,rfl,acc,cs,hb⟩:=hrel;by_cases Hr:k < m
  ·obtain⟨a0,a1,a2,a3,ar,hd⟩:=Cds.drop_cons (show k < xs.len from by rw[<-HM.out];exact Hr);obtain⟨b,o,rfl,Hd⟩:=HX.2.2 (by rw[<-HM.out];omega);have Hb:=(CdR.keep (hb.fr.same λb hb=>⟨HS b hb,id⟩) Hd).drop k;rw[hd]at Hb;obtain⟨⟨Hf,_,r0,r1,c0,c3⟩,⟨Aa1,qa1,c1,sa1⟩,⟨Aa2,qa2,c2,sa2⟩,_⟩:=Hb;have Gf:b < wr.heap.size:=ltq (HS _ Hf) hb.fr.size;have Hl:(k:Int) < (m:Int):=by omega
   have Fb:(0:Int)<=(k:Int):=by omega
   obtain⟨la1,PE⟩:=nmq a1.len;rw[<-PE]at c1;obtain⟨la2,L0⟩:=nmq a2.len;rw[<-L0]at c2;obtain⟨w5,GE⟩:=nmq (wr.alloc (.cells #[.int .u8 a0,.slice Aa1 la1 qa1,.slice Aa2 la2 qa2,.int .i64 a3] 160));have Hs:Fr NoT wr w5:=by rw[GE];exact(Fr.refl _ _).alloc _
   have Hm:Bk w5 wr.heap.size 160 #[.int .u8 a0,.slice Aa1 la1 qa1,.slice Aa2 la2 qa2,.int .i64 a3]:=by rw[GE];exact Bk.new _ _ _
   have ga1:=λ(W:World)(hf:Fr NoT wr W)=>zck a1 n W S Z Aa1 qa1 fs ts Af At cf ct T (λb h=>ltq (ltq (HS b h) hb.fr.size) hf.size) (λb h=>ltq (hB b h) (hb.fr.trans hf).size) (F4.keep (λ_ h=>h) ((hb.fr.trans hf).same λb h=>⟨hB b h,id⟩)) (sa1.imp λ_ _ hx=>ExR.keep (hf.same λb h=>⟨ltq (HS b h) hb.fr.size,id⟩) hx);rw[<-PE,<-MC.1,<-MC.2]at ga1;have Ga1:=hdq ga1;have ga2:=λ(W:World)(hf:Fr NoT wr W)=>(HA k a0 a1 a2 a3 ar hd) n W S Z Aa2 qa2 fs ts Af At cf ct T (λb h=>ltq (ltq (HS b h) hb.fr.size) hf.size) (λb h=>ltq (hB b h) (hb.fr.trans hf).size) (F4.keep (λ_ h=>h) ((hb.fr.trans hf).same λb h=>⟨hB b h,id⟩)) (sa2.imp λ_ _ hx=>CdR.keep (hf.same λb h=>⟨ltq (HS b h) hb.fr.size,id⟩) hx);rw[<-L0,<-MC.1,<-MC.2]at ga2;have Ga2:=hdq ga2;have HD:=hdq hd;have S8:=hdq Hs;have Nq:=hdq Hm;have JD:=hdq GE;have HR:=hdq (aiq r0 r1);have jy:Hid (Fr (λb=>b=wr.heap.size) wr w5):=Hs.any;clear hd Hd Hf sa1 PE ga1 sa2 L0 ga2 r0 r1 Hs Hm GE;go_wp2_with fail;rw[<-JD.out];clear c0 c1 c2 c3 Gf;refine(Ga1 _ S8.out).mono ?_;rintro _ v0 ⟨Ba1,ea1,rfl,ta1,hf⟩;have hk:=Nq.fr0 hf;have y0:=hk.cell 0;have y1:=hk.cell 1;have y2:=hk.cell 2;have y3:=hk.cell 3;have z:=hk.frozen 1;have x0:=hk.lt;simp only[getsL]at y0 y1 y2 y3;obtain⟨ma1,PF⟩:=nmq ((zar n a1).len );rw[<-PF];have We:=hdq PF;obtain⟨u0,My⟩:=nmq (v0.setCell ⟨wr.heap.size,1,none⟩ (.slice Ba1 ma1 ea1));have GH:Fr NoT wr u0:=by rw[My];exact Fr.high (S8.trans hf) (lrq _) _ _
   have FO:Fr (λb=>b=wr.heap.size) v0 u0:=by rw[My];exact Fr.own (Fr.refl _ _) 1 _
   have FR:Bk u0 wr.heap.size 160 #[.int .u8 a0,.slice Ba1 ma1 ea1,.slice Aa2 la2 qa2,.int .i64 a3]:=by
    rw[My];have:=hk.set_ 1 (.slice Ba1 ma1 ea1);simpa using this
   have Kv:Fr (λb=>b=wr.heap.size) w5 u0:=hf.any.trans FO;have Ta1_0:=hdq (show SlR (λb o=>ExR u0 (New (wr.heap.size+1) u0) True (zar n a1) b o) (zar n a1).len 64 Ba1 ea1 from ta1.imp λ_ _ h=>ExR.more (λb hb=>⟨by have h1:=hb.1;have:=Nq.lt;omega,ltq hb.2 FO.size⟩) (ExR.keep (FO.same λb hb=>⟨hb.2,λe=>by have e:b=wr.heap.size:=e;have h1:=hb.1;have:=Nq.lt;omega⟩) h));have JY:=hdq GH;have L1:=hdq FR;have Ry:=hdq My;clear ta1 hf hk GH FO FR Kv My PF;go_wp2_with fail;rw[<-Ry.out];clear x0 z y0 y1 y2 y3;refine(Ga2 _ JY.out).mono ?_;rintro _ v1 ⟨Ba2,ea2,rfl,ta2,hf⟩;have hk:=L1.fr0 hf;have y0:=hk.cell 0;have y1:=hk.cell 1;have y2:=hk.cell 2;have y3:=hk.cell 3;have z:=hk.frozen 2;have x0:=hk.lt;simp only[getsL]at y0 y1 y2 y3;obtain⟨ma2,L3⟩:=nmq ((zaJ n a2).len );rw[<-L3];have Rz:=hdq L3;obtain⟨u1,JA⟩:=nmq (v1.setCell ⟨wr.heap.size,2,none⟩ (.slice Ba2 ma2 ea2));have GH:Fr NoT wr u1:=by rw[JA];exact Fr.high (JY.trans hf) (lrq _) _ _
   have FO:Fr (λb=>b=wr.heap.size) v1 u1:=by rw[JA];exact Fr.own (Fr.refl _ _) 2 _
   have FR:Bk u1 wr.heap.size 160 #[.int .u8 a0,.slice Ba1 ma1 ea1,.slice Ba2 ma2 ea2,.int .i64 a3]:=by
    rw[JA];have:=hk.set_ 2 (.slice Ba2 ma2 ea2);simpa using this
   have Kv:Fr (λb=>b=wr.heap.size) u0 u1:=hf.any.trans FO;have Ta1_1:=hdq (show SlR (λb o=>ExR u1 (New (wr.heap.size+1) u1) True (zar n a1) b o) (zar n a1).len 64 Ba1 ea1 from Ta1_0.imp λ_ _ h=>ExR.more (λb hb=>⟨hb.1,ltq hb.2 Kv.size⟩) (ExR.keep (Kv.same λb hb=>⟨hb.2,λe=>by have e:b=wr.heap.size:=e;have h1:=hb.1;omega⟩) h));have Ta2_1:=hdq (show SlR (λb o=>CdR u1 (New (wr.heap.size+1) u1) True (zaJ n a2) b o) (zaJ n a2).len 64 Ba2 ea2 from ta2.imp λ_ _ h=>CdR.more (λb hb=>⟨by have h1:=hb.1;have:=L1.lt;omega,ltq hb.2 FO.size⟩) (CdR.keep (FO.same λb hb=>⟨hb.2,λe=>by have e:b=wr.heap.size:=e;have h1:=hb.1;have:=L1.lt;omega⟩) h));have Qx:=hdq GH;have RA:=hdq FR;have PG:=hdq JA;clear ta2 hf hk GH FO FR Kv JA L3;obtain⟨w9,FY⟩:=nmq (u1.alloc (.cells #[.int .u8 a0,.slice Ba1 ma1 ea1,.slice Ba2 ma2 ea2,.int .i64 a3] 160));have hz:u1.heap.size=v1.heap.size:=by rw[PG.out];simp
   have Gm:Fr NoT wr w9:=by rw[FY];exact Qx.alloc _
   have FM:Bk w9 v1.heap.size 160 ([.int .u8 a0,.slice Ba1 ma1 ea1,.slice Ba2 ma2 ea2,.int .i64 a3]:List Value).toArray :=by rw[FY];exact Bk.new_at _ _ _ hz
   have Fl:=World.ownsRow.kept (w':=w9) hb.row (row:=none) ⟨Gm.os,Gm.tape,Gm.output,Gm.size,λi hi _=>Gm.block i hi id⟩ (Classical.em _);have UP:Fr NoT u1 w9:=by rw[FY];exact(Fr.refl _ _).alloc _
   have Jj:=hdq Fl;have LW:=hdq FM;have MR:=hdq UP;have FT:=hdq Gm;have NL:=hdq FY;have LZ:w.heap.size<=w9.heap.size:=leq9 hb.fr.size Gm.size;have FN:(acc.length+1)*64<=140737488355328:=by have:=Ji.out;have:=hb.len;omega
   have Jt:acc.length+1<=9223372036854775807:=by have:=hb.len;omega
   clear FY Gm FM Fl UP hz;go_wp2_with (at_builtin;rw[<-PG.out,<-NL.out];refine zal _ rfl _ _ 37 rfl w.heap.size 160 i0 (.agg #[.int .u8 0,.slice none 0 0,.slice none 0 0,.int .i64 0]) 4 64 Tryz.underlying37 HI.1 HI.2.1 HI.2.2.1 HI.2.2.2 rfl (by decide) _ _ _ rfl Jj.out ⟨v1.heap.size,0,none⟩ 1 1 _ rfl rfl LW.newsL ?c2 (by decide) ?c3 FN LZ ?_);case c2=>
    intro u hu;simp only[List.mem_cons,List.not_mem_nil,or_false]at hu;rcases hu with rfl|rfl|rfl|rfl<;>rfl
   case c3=>unfold maxLen;omega
   intro v' w10 Hg Hh GY;have Hq:=RowR.step zbC hb.row hb.fr.size hb.rows FT.out (y:=(⟨a0,zar n a1,zaJ n a2,a3⟩:Cn)) (zs:= [.int .u8 a0,.slice Ba1 ma1 ea1,.slice Ba2 ma2 ea2,.int .i64 a3])
    ⟨Ba1,ea1,Ba2,ea2,by rw[We.out,Rz.out],HR.1,HR.2,Ta1_1.imp λ_ _ h=>ExR.more (λb hb=>⟨by have h1:=hb.1;omega,ltq hb.2 MR.size⟩) (ExR.keep (MR.same λb hb=>⟨hb.2,id⟩) h),Ta2_1.imp λ_ _ h=>CdR.more (λb hb=>⟨by have h1:=hb.1;omega,ltq hb.2 MR.size⟩) (CdR.keep (MR.same λb hb=>⟨hb.2,id⟩) h)⟩ Hh GY
   have hlen:(acc++ [(⟨a0,zar n a1,zaJ n a2,a3⟩:Cn)]).length =acc.length+1:=by simp
   have F8:=hdq (show RcX n w xs v' w10 (acc++ [⟨a0,zar n a1,zaJ n a2,a3⟩]) (cs++ [.int .u8 a0,.slice Ba1 ma1 ea1,.slice Ba2 ma2 ea2,.int .i64 a3]) (k+1)from
    ⟨by rw[hlen];exact Hg,Hq.1,Fr.back1 hb.fr Hq.2 (lrq _),by
     rw[zez,Cds.drop_succ k xs HD.out,<-hb.eq,HD.out];rfl,by rw[hlen,hb.len]⟩)
   clear Hg Hh GY Hq hlen FN Jt LZ x0 z y0 y1 y2 y3;go_wp2_with fail;go_roundw;case rel=>exact⟨k+1,by omega,by go_num,_,_,F8⟩
   case measure=>simp[intOf];omega
  ·have Hl:¬(k:Int) < (m:Int):=by omega
   have JK:k=m:=by omega
   have hle:(zaJ n xs).len =acc.length:=by rw[zaO,<-HM.out,hb.len,JK]
   have heq:zaJ n xs=zcv acc:=by
    rw[<-zdQ,<-hb.eq,Cds.drop_nil (by rw[<-HM.out];omega)];rfl
   obtain⟨A',c',he,Fh⟩:=RowR.slice zbC (sz:=64) hb.row hb.rows (by rw[hb.len,JK];exact Ji.out) (P:=λb o=>CdR wr (New w.heap.size wr) True (zaJ n xs) b o) λg hg hr hc=>by
    rw[heq];exact rowC (o:=0) hg hr λj u hj=>by rw[Nat.zero_add];exact hc j u hj
   have HE:=hdq he;have J7:=hdq Fh;have K9:=hdq hle;clear heq hle he Fh;go_wp2_with fail;go_ret;refine⟨A',c',?_,?_,hb.fr⟩
   ·rw[K9.out,HE.out];rfl
   ·rw[K9.out];exact J7.out
theorem zft:∀xs:Cds,R2cI xs
 | .nil,i,_,_,_,_,_,h=>by cases i<;>simp[Cds.drop]at h
 | .cons k args of_ at_ rest,0,a0,a1,a2,a3,ar,h=>by
  simp only[Cds.drop,Cds.cons.injEq]at h;obtain⟨_,_,rfl,_,_⟩:=h;exact zkp _ (zft _)
 | .cons k args of_ at_ rest,i+1,a0,a1,a2,a3,ar,h=>by
  simp only[Cds.drop]at h;exact zft rest i a0 a1 a2 a3 ar h
theorem zgU (xs:Cds):R2cC xs:=zkp xs (zft xs)
