/- ref10.bareExprs. -/
import Derived.Test.YtmopichdofgndaaGreatDoorJgRqSameT
import Derived.Test.YtmopichdofgndaaGreatDoorJnRw
import Derived.Deep.RegionHeld2
set_option linter.all false
set_option maxHeartbeats 1600000
set_option maxRecDepth 100000
namespace Go.Proofs.YtmopichdofgndaaGreatDoor
open Go.RowKit Go.Shelf
def BxP (xs:Exs)(W:World)(e:Ending)(w':World):Prop:=∃A c,e= .returned (.slice A xs.len c)/\SlR (λb o=>ExR w' (New W.heap.size w') True xs b o) xs.len 64 A c/\Fr NoT W w'
structure BxX (W:World)(xs:Exs)(v:Value)(wr:World)(acc:List Ex)(cs:List Value)(k:Nat):Prop where
 row:wr.ownsRow W.heap.size 41 5 v acc.length cs
 rows:RowR oneX wr (NewR W.heap.size v wr) acc cs
 fr:Fr NoT W wr
 eq:zeb acc (Exs.drop k xs).bare =xs.bare
 len:acc.length=k
def BxC (xs:Exs):Prop:=∀(W:World)(S:Nat->Prop)(Z:Prop)(A:Option Addr)(c:Nat),(∀b,S b->b < W.heap.size)->SlR (λb o=>ExR W S Z xs b o) xs.len 64 A c->Calls Tryz.prog 75 #[.slice A xs.len c] W (BxP xs.bare W)
def BxI (xs:Exs):Prop:=∀(i:Nat)(a0:Int)(a1:ByteArray)(a2:Int)(a3:Exs)(a4:Int)(ar:Exs),Exs.drop i xs= .cons a0 a1 a2 a3 a4 ar->BxC a3
theorem zl6 (xs:Exs)(Ho:BxI xs):BxC xs:=by
 intro w S Z A c hS hx;obtain⟨i0,hi,Fe,Gh,Gn⟩:=info_parts zfH;have HI:=hdq (aiq hi (aiq Fe (aiq Gh Gn)));have hl:xs.len<=9223372036854775807:=leq9 hx.1 hx.2.1.1;have HA:=hdq Ho;have HX:=hdq hx;have HS:=hdq hS;obtain⟨m,hm⟩:=nmq xs.len;have Ji:=hdq (show m*64<=140737488355328 from by rw[hm];exact hx.2.1.2);rw[<-hm]at hl ⊢;have HM:=hdq hm;have JJ:=hdq (show BxX w xs (.slice none 0 0) w [] [] 0 from⟨World.ownsRow_nil _ _ _ _,rfl,Fr.refl _ _,rfl,rfl⟩);clear Ho hx hS hm hi Fe Gh Gn;go_enter Tryz.func75,Tryz.ntmps75;go_wp2_with fail;go_loopw [3,4] (λv i wr=>∃k:Nat,k<=m/\i= .int .i64 k/\∃(acc:List Ex)(cs:List Value),Hid (BxX w xs v wr acc cs k)) (λv i _=>m - (intOf i).toNat);case atStart=>exact⟨0,Nat.zero_le _,rfl, [], [],JJ⟩
 case round=>
  clear JJ;obtain⟨k,hk,rfl,acc,cs,hb⟩:=hrel;by_cases Hr:k < m
  ·obtain⟨a0,a1,a2,a3,a4,ar,hd⟩:=Exs.drop_cons (show k < xs.len from by rw[<-HM.out];exact Hr);obtain⟨b,o,rfl,Hd⟩:=HX.2.2 (by rw[<-HM.out];omega);have Hb:=(ExR.keep (hb.fr.same λb hb=>⟨HS b hb,id⟩) Hd).drop k;rw[hd]at Hb;obtain⟨⟨Hf,_,r0,r1,r2,c0,c1,c2,c4⟩,⟨A3,q3,c3,s3⟩,_⟩:=Hb;have Gf:b < wr.heap.size:=ltq (HS _ Hf) hb.fr.size;have Hl:(k:Int) < (m:Int):=by omega
   have Fb:(0:Int)<=(k:Int):=by omega
   obtain⟨l3,Gz⟩:=nmq a3.len;rw[<-Gz]at c3;obtain⟨w5,GE⟩:=nmq (wr.alloc (.cells #[.int .u8 a0,.string a1,.int .i64 a2,.slice A3 l3 q3,.int .i64 0] 41));have Hs:Fr NoT wr w5:=by rw[GE];exact(Fr.refl _ _).alloc _
   have Hm:Bk w5 wr.heap.size 41 #[.int .u8 a0,.string a1,.int .i64 a2,.slice A3 l3 q3,.int .i64 0]:=by
    rw[GE];exact Bk.new _ _ _
   have h7:=HA k a0 a1 a2 a3 a4 ar hd w5 S Z A3 q3 (λb h=>ltq (ltq (HS b h) hb.fr.size) Hs.size) (s3.imp λ_ _ hx=>ExR.keep (Hs.same λb h=>⟨ltq (HS b h) hb.fr.size,id⟩) hx);rw[<-Gz]at h7;have H7:=hdq h7;have HD:=hdq hd;have GO:=hdq Hm;have Hx:=hdq Hs;have JD:=hdq GE;have HR:=hdq (aiq r0 (aiq r1 r2));clear hd Hd Hf s3 r0 r1 r2 Gz h7 Hm Hs GE;go_wp2_with fail;rw[<-JD.out];clear c0 c1 c2 c3 c4 Gf;refine H7.mono ?_;rintro _ w7 ⟨A4,q4,rfl,s4,Gw⟩;have GK:=GO.fr0 Gw;have x0:=GK.cell 0;have x1:=GK.cell 1;have x2:=GK.cell 2;have x3:=GK.cell 3;have x4:=GK.cell 4;have z3:=GK.frozen 3;have xl:=GK.lt;simp only[getsL]at x0 x1 x2 x3 x4;obtain⟨l4,Gy⟩:=nmq a3.bare.len;rw[<-Gy];have Qh:=hdq Gy
   -- the world ahead of the append
   obtain⟨w8,GG⟩:=nmq (w7.setCell ⟨wr.heap.size,3,none⟩ (.slice A4 l4 q4));obtain⟨w9,FY⟩:=nmq (w8.alloc (.cells #[.int .u8 a0,.string a1,.int .i64 a2,.slice A4 l4 q4,.int .i64 0] 41));have LX:Fr (λb=>b=wr.heap.size) w7 w9:=by rw[FY,GG];exact(Fr.own (Fr.refl _ _) 3 _).alloc _
   have Gm:Fr NoT wr w9:=by rw[FY,GG];exact(Fr.high (Hx.trans Gw) (lrq _) _ _).alloc _
   have FM:Bk w9 w7.heap.size 41 ([.int .u8 a0,.string a1,.int .i64 a2,.slice A4 l4 q4,.int .i64 0]:List Value).toArray :=by rw[FY];exact Bk.new_at _ _ _ (by rw[GG];simp)
   have Fl:=World.ownsRow.kept (w':=w9) hb.row (row:=none) ⟨Gm.os,Gm.tape,Gm.output,Gm.size,λi hi _=>Gm.block i hi id⟩ (Classical.em _);have Jj:=hdq Fl;have LW:=hdq FM;have LY:=hdq LX;have FT:=hdq Gm;have JG:=hdq Gw;have Lj:=hdq s4;have LZ:w.heap.size<=w9.heap.size:=leq9 hb.fr.size Gm.size;have FN:(acc.length+1)*64<=140737488355328:=by have:=Ji.out;have:=hb.len;omega
   have Jt:acc.length+1<=9223372036854775807:=by have:=hb.len;omega
   have NL:=hdq FY;have K8:=hdq GG;clear Gy GG FY LX Gm FM Fl GK Gw s4;go_wp2_with (at_builtin;rw[<-K8.out,<-NL.out];refine zal _ rfl _ _ 36 rfl w.heap.size 41 i0 (.agg #[.int .u8 0,.string ⟨#[]⟩,.int .i64 0,.slice none 0 0,.int .i64 0]) 5 64 Tryz.underlying36 HI.1 HI.2.1 HI.2.2.1 HI.2.2.2 rfl (by decide) _ _ _ rfl Jj.out ⟨w7.heap.size,0,none⟩ 1 1 _ rfl rfl LW.newsL ?c2 (by decide) ?c3 FN LZ ?_);case c2=>
    intro u hu;simp only[List.mem_cons,List.not_mem_nil,or_false]at hu;rcases hu with rfl|rfl|rfl|rfl|rfl<;>rfl
   case c3=>unfold maxLen;omega
   intro v' w10 Hg Hh GY;have Wd:wr.heap.size < w7.heap.size:=xl;have Hq:=RowR.step za4 hb.row hb.fr.size hb.rows FT.out (y:=(⟨a0,a1,a2,a3.bare,0⟩:Ex)) (zs:= [.int .u8 a0,.string a1,.int .i64 a2,.slice A4 l4 q4,.int .i64 0])
    ⟨A4,q4,by rw[Qh.out],HR.1,HR.2.1,by simp[in64],Lj.imp λ_ _ h=>ExR.more (λb hb=>⟨by have h1:=hb.1;have:=Hx.size;omega,by have h2:=hb.2;have:=LY.size;omega⟩) (ExR.keep (LY.same λb hb=>⟨hb.2,λe=>by have e:b=wr.heap.size:=e;have h1:=hb.1;have:=GO.lt;omega⟩) h)⟩ Hh GY
   have hlen:(acc++ [(⟨a0,a1,a2,a3.bare,0⟩:Ex)]).length =acc.length+1:=by simp
   have F8:=hdq (show BxX w xs v' w10 (acc++ [⟨a0,a1,a2,a3.bare,0⟩]) (cs++ [.int .u8 a0,.string a1,.int .i64 a2,.slice A4 l4 q4,.int .i64 0]) (k+1)from
    ⟨by rw[hlen];exact Hg,Hq.1,Fr.back1 hb.fr Hq.2 (lrq _),by
     rw[zbA,Exs.drop_succ k xs HD.out,<-hb.eq,HD.out];rfl,by rw[hlen,hb.len]⟩)
   clear Hg Hh GY Hq hlen FN Jt LZ x0 x1 x2 x3 x4 z3 xl;go_wp2_with fail;go_roundw;case rel=>exact⟨k+1,by omega,by go_num,_,_,F8⟩
   case measure=>simp[intOf];omega
  ·have Hl:¬(k:Int) < (m:Int):=by omega
   have JK:k=m:=by omega
   have hle:xs.bare.len=acc.length:=by rw[zfW,<-HM.out,hb.len,JK]
   have heq:xs.bare=zd9 acc:=by
    rw[<-zbB,<-hb.eq,Exs.drop_nil (by rw[<-HM.out];omega)];rfl
   obtain⟨A',c',he,Fh⟩:=RowR.slice za4 (sz:=64) hb.row hb.rows (by rw[hb.len,JK];exact Ji.out) (P:=λb o=>ExR wr (New w.heap.size wr) True xs.bare b o) λg hg hr hc=>by
    rw[heq];exact rowX (o:=0) hg hr λj u hj=>by rw[Nat.zero_add];exact hc j u hj
   have HE:=hdq he;have J7:=hdq Fh;have K9:=hdq hle;clear heq hle he Fh;go_wp2_with fail;go_ret;refine⟨A',c',?_,?_,hb.fr⟩
   ·rw[K9.out,HE.out];rfl
   ·rw[K9.out];exact J7.out
theorem zgI:∀xs:Exs,BxI xs
 | .nil,i,_,_,_,_,_,_,h=>by cases i<;>simp[Exs.drop]at h
 | .cons k nm n args at_ rest,0,a0,a1,a2,a3,a4,ar,h=>by
  simp only[Exs.drop,Exs.cons.injEq]at h;obtain⟨_,_,_,rfl,_,_⟩:=h;exact zl6 _ (zgI _)
 | .cons k nm n args at_ rest,i+1,a0,a1,a2,a3,a4,ar,h=>by
  simp only[Exs.drop]at h;exact zgI rest i a0 a1 a2 a3 a4 ar h
theorem zey (xs:Exs):BxC xs:=zl6 xs (zgI xs)
def zgJ (acc:List Cn)(t:Cds):Cds:=acc.foldr Cn.cons t
theorem zez (acc:List Cn)(x:Cn)(t:Cds):zgJ (acc++ [x]) t=zgJ acc (x.cons t):=by simp[zgJ,List.foldr_append]
theorem zdQ:∀acc:List Cn,zgJ acc .nil =zcv acc
 | []=>rfl
 |x::r=>by show x.cons (zgJ r .nil)=x.cons (zcv r);rw[zdQ r]
def BcP (xs:Cds)(W:World)(e:Ending)(w':World):Prop:=∃A c,e= .returned (.slice A xs.len c)/\SlR (λb o=>CdR w' (New W.heap.size w') True xs b o) xs.len 64 A c/\Fr NoT W w'
structure BcX (W:World)(xs:Cds)(v:Value)(wr:World)(acc:List Cn)(cs:List Value)(k:Nat):Prop where
 row:wr.ownsRow W.heap.size 160 4 v acc.length cs
 rows:RowR oneC wr (NewR W.heap.size v wr) acc cs
 fr:Fr NoT W wr
 eq:zgJ acc (Cds.drop k xs).bare =xs.bare
 len:acc.length=k
def BcC (xs:Cds):Prop:=∀(W:World)(S:Nat->Prop)(Z:Prop)(A:Option Addr)(c:Nat),(∀b,S b->b < W.heap.size)->SlR (λb o=>CdR W S Z xs b o) xs.len 64 A c->Calls Tryz.prog 76 #[.slice A xs.len c] W (BcP xs.bare W)
def BcI (xs:Cds):Prop:=∀(i:Nat)(a0:Int)(a1:Exs)(a2:Cds)(a3:Int)(ar:Cds),Cds.drop i xs= .cons a0 a1 a2 a3 ar->BcC a2
theorem zl7 (xs:Cds)(Ho:BcI xs):BcC xs:=by
 intro w S Z A c hS hx;obtain⟨i0,hi,Fe,Gh,Gn⟩:=info_parts ziZ;have HI:=hdq (aiq hi (aiq Fe (aiq Gh Gn)));have hl:xs.len<=9223372036854775807:=leq9 hx.1 hx.2.1.1;have HA:=hdq Ho;have HX:=hdq hx;have HS:=hdq hS;obtain⟨m,hm⟩:=nmq xs.len;have Ji:=hdq (show m*64<=140737488355328 from by rw[hm];exact hx.2.1.2);rw[<-hm]at hl ⊢;have HM:=hdq hm;have JJ:=hdq (show BcX w xs (.slice none 0 0) w [] [] 0 from⟨World.ownsRow_nil _ _ _ _,rfl,Fr.refl _ _,rfl,rfl⟩);clear Ho hx hS hm hi Fe Gh Gn;go_enter Tryz.func76,Tryz.ntmps76;go_wp2_with fail;go_loopw [3,4] (λv i wr=>∃k:Nat,k<=m/\i= .int .i64 k/\∃(acc:List Cn)(cs:List Value),Hid (BcX w xs v wr acc cs k)) (λv i _=>m - (intOf i).toNat);case atStart=>exact⟨0,Nat.zero_le _,rfl, [], [],JJ⟩
 case round=>
  clear JJ;obtain⟨k,hk,rfl,acc,cs,hb⟩:=hrel;by_cases Hr:k < m
  ·obtain⟨a0,a1,a2,a3,ar,hd⟩:=Cds.drop_cons (show k < xs.len from by rw[<-HM.out];exact Hr);obtain⟨b,o,rfl,Hd⟩:=HX.2.2 (by rw[<-HM.out];omega);have Hb:=(CdR.keep (hb.fr.same λb hb=>⟨HS b hb,id⟩) Hd).drop k;rw[hd]at Hb;obtain⟨⟨Hf,_,r0,r1,c0,c3⟩,⟨Aa1,qa1,c1,sa1⟩,⟨Aa2,qa2,c2,sa2⟩,_⟩:=Hb;have Gf:b < wr.heap.size:=ltq (HS _ Hf) hb.fr.size;have Hl:(k:Int) < (m:Int):=by omega
   have Fb:(0:Int)<=(k:Int):=by omega
   obtain⟨la1,PE⟩:=nmq a1.len;rw[<-PE]at c1;obtain⟨la2,L0⟩:=nmq a2.len;rw[<-L0]at c2;obtain⟨w5,GE⟩:=nmq (wr.alloc (.cells #[.int .u8 a0,.slice Aa1 la1 qa1,.slice Aa2 la2 qa2,.int .i64 0] 160));have Hs:Fr NoT wr w5:=by rw[GE];exact(Fr.refl _ _).alloc _
   have Hm:Bk w5 wr.heap.size 160 #[.int .u8 a0,.slice Aa1 la1 qa1,.slice Aa2 la2 qa2,.int .i64 0]:=by rw[GE];exact Bk.new _ _ _
   have ga1:=λ(W:World)(hf:Fr NoT wr W)=>zey a1 W S Z Aa1 qa1 (λb h=>ltq (ltq (HS b h) hb.fr.size) hf.size) (sa1.imp λ_ _ hx=>ExR.keep (hf.same λb h=>⟨ltq (HS b h) hb.fr.size,id⟩) hx);rw[<-PE]at ga1;have Ga1:=hdq ga1;have ga2:=λ(W:World)(hf:Fr NoT wr W)=>(HA k a0 a1 a2 a3 ar hd) W S Z Aa2 qa2 (λb h=>ltq (ltq (HS b h) hb.fr.size) hf.size) (sa2.imp λ_ _ hx=>CdR.keep (hf.same λb h=>⟨ltq (HS b h) hb.fr.size,id⟩) hx);rw[<-L0]at ga2;have Ga2:=hdq ga2;have HD:=hdq hd;have S8:=hdq Hs;have Nq:=hdq Hm;have JD:=hdq GE;have HR:=hdq r0;have jy:Hid (Fr (λb=>b=wr.heap.size) wr w5):=Hs.any;clear hd Hd Hf sa1 PE ga1 sa2 L0 ga2 r0 r1 Hs Hm GE;go_wp2_with fail;rw[<-JD.out];clear c0 c1 c2 c3 Gf;refine(Ga1 _ S8.out).mono ?_;rintro _ v0 ⟨Ba1,ea1,rfl,ta1,hf⟩;have hk:=Nq.fr0 hf;have y0:=hk.cell 0;have y1:=hk.cell 1;have y2:=hk.cell 2;have y3:=hk.cell 3;have z:=hk.frozen 1;have x0:=hk.lt;simp only[getsL]at y0 y1 y2 y3;obtain⟨ma1,PF⟩:=nmq a1.bare.len;rw[<-PF];have We:=hdq PF;obtain⟨u0,My⟩:=nmq (v0.setCell ⟨wr.heap.size,1,none⟩ (.slice Ba1 ma1 ea1));have GH:Fr NoT wr u0:=by rw[My];exact Fr.high (S8.trans hf) (lrq _) _ _
   have FO:Fr (λb=>b=wr.heap.size) v0 u0:=by rw[My];exact Fr.own (Fr.refl _ _) 1 _
   have FR:Bk u0 wr.heap.size 160 #[.int .u8 a0,.slice Ba1 ma1 ea1,.slice Aa2 la2 qa2,.int .i64 0]:=by
    rw[My];have:=hk.set_ 1 (.slice Ba1 ma1 ea1);simpa using this
   have Kv:Fr (λb=>b=wr.heap.size) w5 u0:=hf.any.trans FO;have Ta1_0:=hdq (show SlR (λb o=>ExR u0 (New (wr.heap.size+1) u0) True a1.bare b o) a1.bare.len 64 Ba1 ea1 from ta1.imp λ_ _ h=>ExR.more (λb hb=>⟨by have h1:=hb.1;have:=Nq.lt;omega,ltq hb.2 FO.size⟩) (ExR.keep (FO.same λb hb=>⟨hb.2,λe=>by have e:b=wr.heap.size:=e;have h1:=hb.1;have:=Nq.lt;omega⟩) h));have JY:=hdq GH;have L1:=hdq FR;have Ry:=hdq My;clear ta1 hf hk GH FO FR Kv My PF;go_wp2_with fail;rw[<-Ry.out];clear x0 z y0 y1 y2 y3;refine(Ga2 _ JY.out).mono ?_;rintro _ v1 ⟨Ba2,ea2,rfl,ta2,hf⟩;have hk:=L1.fr0 hf;have y0:=hk.cell 0;have y1:=hk.cell 1;have y2:=hk.cell 2;have y3:=hk.cell 3;have z:=hk.frozen 2;have x0:=hk.lt;simp only[getsL]at y0 y1 y2 y3;obtain⟨ma2,L3⟩:=nmq a2.bare.len;rw[<-L3];have Rz:=hdq L3;obtain⟨u1,JA⟩:=nmq (v1.setCell ⟨wr.heap.size,2,none⟩ (.slice Ba2 ma2 ea2));have GH:Fr NoT wr u1:=by rw[JA];exact Fr.high (JY.trans hf) (lrq _) _ _
   have FO:Fr (λb=>b=wr.heap.size) v1 u1:=by rw[JA];exact Fr.own (Fr.refl _ _) 2 _
   have FR:Bk u1 wr.heap.size 160 #[.int .u8 a0,.slice Ba1 ma1 ea1,.slice Ba2 ma2 ea2,.int .i64 0]:=by
    rw[JA];have:=hk.set_ 2 (.slice Ba2 ma2 ea2);simpa using this
   have Kv:Fr (λb=>b=wr.heap.size) u0 u1:=hf.any.trans FO;have Ta1_1:=hdq (show SlR (λb o=>ExR u1 (New (wr.heap.size+1) u1) True a1.bare b o) a1.bare.len 64 Ba1 ea1 from Ta1_0.imp λ_ _ h=>ExR.more (λb hb=>⟨hb.1,ltq hb.2 Kv.size⟩) (ExR.keep (Kv.same λb hb=>⟨hb.2,λe=>by have e:b=wr.heap.size:=e;have h1:=hb.1;omega⟩) h));have Ta2_1:=hdq (show SlR (λb o=>CdR u1 (New (wr.heap.size+1) u1) True a2.bare b o) a2.bare.len 64 Ba2 ea2 from ta2.imp λ_ _ h=>CdR.more (λb hb=>⟨by have h1:=hb.1;have:=L1.lt;omega,ltq hb.2 FO.size⟩) (CdR.keep (FO.same λb hb=>⟨hb.2,λe=>by have e:b=wr.heap.size:=e;have h1:=hb.1;have:=L1.lt;omega⟩) h));have Qx:=hdq GH;have RA:=hdq FR;have PG:=hdq JA;clear ta2 hf hk GH FO FR Kv JA L3;obtain⟨w9,FY⟩:=nmq (u1.alloc (.cells #[.int .u8 a0,.slice Ba1 ma1 ea1,.slice Ba2 ma2 ea2,.int .i64 0] 160));have hz:u1.heap.size=v1.heap.size:=by rw[PG.out];simp
   have Gm:Fr NoT wr w9:=by rw[FY];exact Qx.alloc _
   have FM:Bk w9 v1.heap.size 160 ([.int .u8 a0,.slice Ba1 ma1 ea1,.slice Ba2 ma2 ea2,.int .i64 0]:List Value).toArray :=by rw[FY];exact Bk.new_at _ _ _ hz
   have Fl:=World.ownsRow.kept (w':=w9) hb.row (row:=none) ⟨Gm.os,Gm.tape,Gm.output,Gm.size,λi hi _=>Gm.block i hi id⟩ (Classical.em _);have UP:Fr NoT u1 w9:=by rw[FY];exact(Fr.refl _ _).alloc _
   have Jj:=hdq Fl;have LW:=hdq FM;have MR:=hdq UP;have FT:=hdq Gm;have NL:=hdq FY;have LZ:w.heap.size<=w9.heap.size:=leq9 hb.fr.size Gm.size;have FN:(acc.length+1)*64<=140737488355328:=by have:=Ji.out;have:=hb.len;omega
   have Jt:acc.length+1<=9223372036854775807:=by have:=hb.len;omega
   clear FY Gm FM Fl UP hz;go_wp2_with (at_builtin;rw[<-PG.out,<-NL.out];refine zal _ rfl _ _ 37 rfl w.heap.size 160 i0 (.agg #[.int .u8 0,.slice none 0 0,.slice none 0 0,.int .i64 0]) 4 64 Tryz.underlying37 HI.1 HI.2.1 HI.2.2.1 HI.2.2.2 rfl (by decide) _ _ _ rfl Jj.out ⟨v1.heap.size,0,none⟩ 1 1 _ rfl rfl LW.newsL ?c2 (by decide) ?c3 FN LZ ?_);case c2=>
    intro u hu;simp only[List.mem_cons,List.not_mem_nil,or_false]at hu;rcases hu with rfl|rfl|rfl|rfl<;>rfl
   case c3=>unfold maxLen;omega
   intro v' w10 Hg Hh GY;have Hq:=RowR.step zbC hb.row hb.fr.size hb.rows FT.out (y:=(⟨a0,a1.bare,a2.bare,0⟩:Cn)) (zs:= [.int .u8 a0,.slice Ba1 ma1 ea1,.slice Ba2 ma2 ea2,.int .i64 0])
    ⟨Ba1,ea1,Ba2,ea2,by rw[We.out,Rz.out],HR.out,by simp[in64],Ta1_1.imp λ_ _ h=>ExR.more (λb hb=>⟨by have h1:=hb.1;omega,ltq hb.2 MR.size⟩) (ExR.keep (MR.same λb hb=>⟨hb.2,id⟩) h),Ta2_1.imp λ_ _ h=>CdR.more (λb hb=>⟨by have h1:=hb.1;omega,ltq hb.2 MR.size⟩) (CdR.keep (MR.same λb hb=>⟨hb.2,id⟩) h)⟩ Hh GY
   have hlen:(acc++ [(⟨a0,a1.bare,a2.bare,0⟩:Cn)]).length =acc.length+1:=by simp
   have F8:=hdq (show BcX w xs v' w10 (acc++ [⟨a0,a1.bare,a2.bare,0⟩]) (cs++ [.int .u8 a0,.slice Ba1 ma1 ea1,.slice Ba2 ma2 ea2,.int .i64 0]) (k+1)from
    ⟨by rw[hlen];exact Hg,Hq.1,Fr.back1 hb.fr Hq.2 (lrq _),by
     rw[zez,Cds.drop_succ k xs HD.out,<-hb.eq,HD.out];rfl,by rw[hlen,hb.len]⟩)
   clear Hg Hh GY Hq hlen FN Jt LZ x0 z y0 y1 y2 y3;go_wp2_with fail;go_roundw;case rel=>exact⟨k+1,by omega,by go_num,_,_,F8⟩
   case measure=>simp[intOf];omega
  ·have Hl:¬(k:Int) < (m:Int):=by omega
   have JK:k=m:=by omega
   have hle:xs.bare.len=acc.length:=by rw[zfX,<-HM.out,hb.len,JK]
   have heq:xs.bare=zcv acc:=by
    rw[<-zdQ,<-hb.eq,Cds.drop_nil (by rw[<-HM.out];omega)];rfl
   obtain⟨A',c',he,Fh⟩:=RowR.slice zbC (sz:=64) hb.row hb.rows (by rw[hb.len,JK];exact Ji.out) (P:=λb o=>CdR wr (New w.heap.size wr) True xs.bare b o) λg hg hr hc=>by
    rw[heq];exact rowC (o:=0) hg hr λj u hj=>by rw[Nat.zero_add];exact hc j u hj
   have HE:=hdq he;have J7:=hdq Fh;have K9:=hdq hle;clear heq hle he Fh;go_wp2_with fail;go_ret;refine⟨A',c',?_,?_,hb.fr⟩
   ·rw[K9.out,HE.out];rfl
   ·rw[K9.out];exact J7.out
theorem zgK:∀xs:Cds,BcI xs
 | .nil,i,_,_,_,_,_,h=>by cases i<;>simp[Cds.drop]at h
 | .cons k args of_ at_ rest,0,a0,a1,a2,a3,ar,h=>by
  simp only[Cds.drop,Cds.cons.injEq]at h;obtain⟨_,_,rfl,_,_⟩:=h;exact zl7 _ (zgK _)
 | .cons k args of_ at_ rest,i+1,a0,a1,a2,a3,ar,h=>by
  simp only[Cds.drop]at h;exact zgK rest i a0 a1 a2 a3 ar h
theorem zh4 (xs:Cds):BcC xs:=zl7 xs (zgK xs)
def zh5 (acc:List St)(t:Sts):Sts:=acc.foldr St.cons t
theorem zh6 (acc:List St)(x:St)(t:Sts):zh5 (acc++ [x]) t=zh5 acc (x.cons t):=by simp[zh5,List.foldr_append]
theorem zfZ:∀acc:List St,zh5 acc .nil =zao acc
 | []=>rfl
 |x::r=>by show x.cons (zh5 r .nil)=x.cons (zao r);rw[zfZ r]
def BsP (xs:Sts)(W:World)(e:Ending)(w':World):Prop:=∃A c,e= .returned (.slice A xs.len c)/\SlR (λb o=>StR w' (New W.heap.size w') True xs b o) xs.len 128 A c/\Fr NoT W w'
structure BsX (W:World)(xs:Sts)(v:Value)(wr:World)(acc:List St)(cs:List Value)(k:Nat):Prop where
 row:wr.ownsRow W.heap.size 39 7 v acc.length cs
 rows:RowR oneS wr (NewR W.heap.size v wr) acc cs
 fr:Fr NoT W wr
 eq:zh5 acc (Sts.drop k xs).bare =xs.bare
 len:acc.length=k
def BsC (xs:Sts):Prop:=∀(W:World)(S:Nat->Prop)(Z:Prop)(A:Option Addr)(c:Nat),(∀b,S b->b < W.heap.size)->SlR (λb o=>StR W S Z xs b o) xs.len 128 A c->Calls Tryz.prog 25 #[.slice A xs.len c] W (BsP xs.bare W)
def BsI (xs:Sts):Prop:=∀(i:Nat)(a0:Int)(a1:ByteArray)(a2:Exs)(a3:Cds)(a4 a5:Sts)(a6:Int)(ar:Sts),Sts.drop i xs= .cons a0 a1 a2 a3 a4 a5 a6 ar->BsC a4/\BsC a5
theorem zjG (xs:Sts)(Ho:BsI xs):BsC xs:=by
 intro w S Z A c hS hx;obtain⟨i0,hi,Fe,Gh,Gn⟩:=info_parts zej;have HI:=hdq (aiq hi (aiq Fe (aiq Gh Gn)));have hl:xs.len<=9223372036854775807:=leq9 hx.1 hx.2.1.1;have HA:=hdq Ho;have HX:=hdq hx;have HS:=hdq hS;obtain⟨m,hm⟩:=nmq xs.len;have Ji:=hdq (show m*128<=140737488355328 from by rw[hm];exact hx.2.1.2);rw[<-hm]at hl ⊢;have HM:=hdq hm;have JJ:=hdq (show BsX w xs (.slice none 0 0) w [] [] 0 from⟨World.ownsRow_nil _ _ _ _,rfl,Fr.refl _ _,rfl,rfl⟩);clear Ho hx hS hm hi Fe Gh Gn;go_enter Tryz.func25,Tryz.ntmps25;go_wp2_with fail;go_loopw [3,4] (λv i wr=>∃k:Nat,k<=m/\i= .int .i64 k/\∃(acc:List St)(cs:List Value),Hid (BsX w xs v wr acc cs k)) (λv i _=>m - (intOf i).toNat);case atStart=>exact⟨0,Nat.zero_le _,rfl, [], [],JJ⟩
 case round=>
  clear JJ;obtain⟨k,hk,rfl,acc,cs,hb⟩:=hrel;by_cases Hr:k < m
  ·obtain⟨a0,a1,a2,a3,a4,a5,a6,ar,hd⟩:=Sts.drop_cons (show k < xs.len from by rw[<-HM.out];exact Hr);obtain⟨b,o,rfl,Hd⟩:=HX.2.2 (by rw[<-HM.out];omega);have Hb:=(StR.keep (hb.fr.same λb hb=>⟨HS b hb,id⟩) Hd).drop k;rw[hd]at Hb;obtain⟨⟨Hf,_,r0,r1,c0,c1,c6⟩,⟨Aa2,qa2,c2,sa2⟩,⟨Aa3,qa3,c3,sa3⟩,⟨Aa4,qa4,c4,sa4⟩,⟨Aa5,qa5,c5,sa5⟩,_⟩:=Hb;have Gf:b < wr.heap.size:=ltq (HS _ Hf) hb.fr.size;have Hl:(k:Int) < (m:Int):=by omega
   have Fb:(0:Int)<=(k:Int):=by omega
   obtain⟨la2,L0⟩:=nmq a2.len;rw[<-L0]at c2;obtain⟨la3,Wf⟩:=nmq a3.len;rw[<-Wf]at c3;obtain⟨la4,Wg⟩:=nmq a4.len;rw[<-Wg]at c4;obtain⟨la5,Wh⟩:=nmq a5.len;rw[<-Wh]at c5;obtain⟨w5,GE⟩:=nmq (wr.alloc (.cells #[.int .u8 a0,.string a1,.slice Aa2 la2 qa2,.slice Aa3 la3 qa3,.slice Aa4 la4 qa4,.slice Aa5 la5 qa5,.int .i64 0] 39));have Hs:Fr NoT wr w5:=by rw[GE];exact(Fr.refl _ _).alloc _
   have Hm:Bk w5 wr.heap.size 39 #[.int .u8 a0,.string a1,.slice Aa2 la2 qa2,.slice Aa3 la3 qa3,.slice Aa4 la4 qa4,.slice Aa5 la5 qa5,.int .i64 0]:=by rw[GE];exact Bk.new _ _ _
   have ga2:=λ(W:World)(hf:Fr NoT wr W)=>zey a2 W S Z Aa2 qa2 (λb h=>ltq (ltq (HS b h) hb.fr.size) hf.size) (sa2.imp λ_ _ hx=>ExR.keep (hf.same λb h=>⟨ltq (HS b h) hb.fr.size,id⟩) hx);rw[<-L0]at ga2;have Ga2:=hdq ga2;have ga3:=λ(W:World)(hf:Fr NoT wr W)=>zh4 a3 W S Z Aa3 qa3 (λb h=>ltq (ltq (HS b h) hb.fr.size) hf.size) (sa3.imp λ_ _ hx=>CdR.keep (hf.same λb h=>⟨ltq (HS b h) hb.fr.size,id⟩) hx);rw[<-Wf]at ga3;have Ga3:=hdq ga3;have ga4:=λ(W:World)(hf:Fr NoT wr W)=>(HA k a0 a1 a2 a3 a4 a5 a6 ar hd).1 W S Z Aa4 qa4 (λb h=>ltq (ltq (HS b h) hb.fr.size) hf.size) (sa4.imp λ_ _ hx=>StR.keep (hf.same λb h=>⟨ltq (HS b h) hb.fr.size,id⟩) hx);rw[<-Wg]at ga4;have Ga4:=hdq ga4;have ga5:=λ(W:World)(hf:Fr NoT wr W)=>(HA k a0 a1 a2 a3 a4 a5 a6 ar hd).2 W S Z Aa5 qa5 (λb h=>ltq (ltq (HS b h) hb.fr.size) hf.size) (sa5.imp λ_ _ hx=>StR.keep (hf.same λb h=>⟨ltq (HS b h) hb.fr.size,id⟩) hx);rw[<-Wh]at ga5;have Ga5:=hdq ga5;have HD:=hdq hd;have S8:=hdq Hs;have Nq:=hdq Hm;have JD:=hdq GE;have HR:=hdq r0;have jy:Hid (Fr (λb=>b=wr.heap.size) wr w5):=Hs.any;clear hd Hd Hf sa2 L0 ga2 sa3 Wf ga3 sa4 Wg ga4 sa5 Wh ga5 r0 r1 Hs Hm GE;go_wp2_with fail;rw[<-JD.out];clear c0 c1 c2 c3 c4 c5 c6 Gf;refine(Ga2 _ S8.out).mono ?_;rintro _ v0 ⟨Ba2,ea2,rfl,ta2,hf⟩;have hk:=Nq.fr0 hf;have y0:=hk.cell 0;have y1:=hk.cell 1;have y2:=hk.cell 2;have y3:=hk.cell 3;have y4:=hk.cell 4;have y5:=hk.cell 5;have y6:=hk.cell 6;have z:=hk.frozen 2;have x0:=hk.lt;simp only[getsL]at y0 y1 y2 y3 y4 y5 y6
   obtain⟨ma2,L3⟩:=nmq a2.bare.len;rw[<-L3];have Rz:=hdq L3;obtain⟨u0,My⟩:=nmq (v0.setCell ⟨wr.heap.size,2,none⟩ (.slice Ba2 ma2 ea2));have GH:Fr NoT wr u0:=by rw[My];exact Fr.high (S8.trans hf) (lrq _) _ _
   have FO:Fr (λb=>b=wr.heap.size) v0 u0:=by rw[My];exact Fr.own (Fr.refl _ _) 2 _
   have FR:Bk u0 wr.heap.size 39 #[.int .u8 a0,.string a1,.slice Ba2 ma2 ea2,.slice Aa3 la3 qa3,.slice Aa4 la4 qa4,.slice Aa5 la5 qa5,.int .i64 0]:=by
    rw[My];have:=hk.set_ 2 (.slice Ba2 ma2 ea2);simpa using this
   have Kv:Fr (λb=>b=wr.heap.size) w5 u0:=hf.any.trans FO;have Ta2_0:=hdq (show SlR (λb o=>ExR u0 (New (wr.heap.size+1) u0) True a2.bare b o) a2.bare.len 64 Ba2 ea2 from ta2.imp λ_ _ h=>ExR.more (λb hb=>⟨by have h1:=hb.1;have:=Nq.lt;omega,ltq hb.2 FO.size⟩) (ExR.keep (FO.same λb hb=>⟨hb.2,λe=>by have e:b=wr.heap.size:=e;have h1:=hb.1;have:=Nq.lt;omega⟩) h));have JY:=hdq GH;have L1:=hdq FR;have Ry:=hdq My;clear ta2 hf hk GH FO FR Kv My L3;go_wp2_with fail;rw[<-Ry.out];clear x0 z y0 y1 y2 y3 y4 y5 y6;refine(Ga3 _ JY.out).mono ?_;rintro _ v1 ⟨Ba3,ea3,rfl,ta3,hf⟩;have hk:=L1.fr0 hf;have y0:=hk.cell 0;have y1:=hk.cell 1;have y2:=hk.cell 2;have y3:=hk.cell 3;have y4:=hk.cell 4;have y5:=hk.cell 5;have y6:=hk.cell 6;have z:=hk.frozen 3;have x0:=hk.lt;simp only[getsL]at y0 y1 y2 y3 y4 y5 y6;obtain⟨ma3,Wi⟩:=nmq a3.bare.len;rw[<-Wi];have jZ:=hdq Wi;obtain⟨u1,JA⟩:=nmq (v1.setCell ⟨wr.heap.size,3,none⟩ (.slice Ba3 ma3 ea3));have GH:Fr NoT wr u1:=by rw[JA];exact Fr.high (JY.trans hf) (lrq _) _ _
   have FO:Fr (λb=>b=wr.heap.size) v1 u1:=by rw[JA];exact Fr.own (Fr.refl _ _) 3 _
   have FR:Bk u1 wr.heap.size 39 #[.int .u8 a0,.string a1,.slice Ba2 ma2 ea2,.slice Ba3 ma3 ea3,.slice Aa4 la4 qa4,.slice Aa5 la5 qa5,.int .i64 0]:=by
    rw[JA];have:=hk.set_ 3 (.slice Ba3 ma3 ea3);simpa using this
   have Kv:Fr (λb=>b=wr.heap.size) u0 u1:=hf.any.trans FO;have Ta2_1:=hdq (show SlR (λb o=>ExR u1 (New (wr.heap.size+1) u1) True a2.bare b o) a2.bare.len 64 Ba2 ea2 from Ta2_0.imp λ_ _ h=>ExR.more (λb hb=>⟨hb.1,ltq hb.2 Kv.size⟩) (ExR.keep (Kv.same λb hb=>⟨hb.2,λe=>by have e:b=wr.heap.size:=e;have h1:=hb.1;omega⟩) h));have Ta3_1:=hdq (show SlR (λb o=>CdR u1 (New (wr.heap.size+1) u1) True a3.bare b o) a3.bare.len 64 Ba3 ea3 from ta3.imp λ_ _ h=>CdR.more (λb hb=>⟨by have h1:=hb.1;have:=L1.lt;omega,ltq hb.2 FO.size⟩) (CdR.keep (FO.same λb hb=>⟨hb.2,λe=>by have e:b=wr.heap.size:=e;have h1:=hb.1;have:=L1.lt;omega⟩) h));have Qx:=hdq GH;have RA:=hdq FR;have PG:=hdq JA;clear ta3 hf hk GH FO FR Kv JA Wi;go_wp2_with fail;rw[<-PG.out];clear x0 z y0 y1 y2 y3 y4 y5 y6;refine(Ga4 _ Qx.out).mono ?_;rintro _ v2 ⟨Ba4,ea4,rfl,ta4,hf⟩;have hk:=RA.fr0 hf;have y0:=hk.cell 0;have y1:=hk.cell 1;have y2:=hk.cell 2;have y3:=hk.cell 3;have y4:=hk.cell 4;have y5:=hk.cell 5;have y6:=hk.cell 6;have z:=hk.frozen 4;have x0:=hk.lt;simp only[getsL]at y0 y1 y2 y3 y4 y5 y6;obtain⟨ma4,Wj⟩:=nmq a4.bare.len;rw[<-Wj];have j7:=hdq Wj;obtain⟨u2,Uz⟩:=nmq (v2.setCell ⟨wr.heap.size,4,none⟩ (.slice Ba4 ma4 ea4));have GH:Fr NoT wr u2:=by rw[Uz];exact Fr.high (Qx.trans hf) (lrq _) _ _
   have FO:Fr (λb=>b=wr.heap.size) v2 u2:=by rw[Uz];exact Fr.own (Fr.refl _ _) 4 _
   have FR:Bk u2 wr.heap.size 39 #[.int .u8 a0,.string a1,.slice Ba2 ma2 ea2,.slice Ba3 ma3 ea3,.slice Ba4 ma4 ea4,.slice Aa5 la5 qa5,.int .i64 0]:=by
    rw[Uz];have:=hk.set_ 4 (.slice Ba4 ma4 ea4);simpa using this
   have Kv:Fr (λb=>b=wr.heap.size) u1 u2:=hf.any.trans FO;have Ta2_2:=hdq (show SlR (λb o=>ExR u2 (New (wr.heap.size+1) u2) True a2.bare b o) a2.bare.len 64 Ba2 ea2 from Ta2_1.imp λ_ _ h=>ExR.more (λb hb=>⟨hb.1,ltq hb.2 Kv.size⟩) (ExR.keep (Kv.same λb hb=>⟨hb.2,λe=>by have e:b=wr.heap.size:=e;have h1:=hb.1;omega⟩) h));have Ta3_2:=hdq (show SlR (λb o=>CdR u2 (New (wr.heap.size+1) u2) True a3.bare b o) a3.bare.len 64 Ba3 ea3 from Ta3_1.imp λ_ _ h=>CdR.more (λb hb=>⟨hb.1,ltq hb.2 Kv.size⟩) (CdR.keep (Kv.same λb hb=>⟨hb.2,λe=>by have e:b=wr.heap.size:=e;have h1:=hb.1;omega⟩) h));have Ta4_2:=hdq (show SlR (λb o=>StR u2 (New (wr.heap.size+1) u2) True a4.bare b o) a4.bare.len 128 Ba4 ea4 from ta4.imp λ_ _ h=>StR.more (λb hb=>⟨by have h1:=hb.1;have:=RA.lt;omega,ltq hb.2 FO.size⟩) (StR.keep (FO.same λb hb=>⟨hb.2,λe=>by have e:b=wr.heap.size:=e;have h1:=hb.1;have:=RA.lt;omega⟩) h));have FK:=hdq GH;have Wk:=hdq FR;have j8:=hdq Uz;clear ta4 hf hk GH FO FR Kv Uz Wj;go_wp2_with fail;rw[<-j8.out];clear x0 z y0 y1 y2 y3 y4 y5 y6;refine(Ga5 _ FK.out).mono ?_;rintro _ v3 ⟨Ba5,ea5,rfl,ta5,hf⟩;have hk:=Wk.fr0 hf;have y0:=hk.cell 0;have y1:=hk.cell 1;have y2:=hk.cell 2;have y3:=hk.cell 3;have y4:=hk.cell 4;have y5:=hk.cell 5;have y6:=hk.cell 6;have z:=hk.frozen 5;have x0:=hk.lt;simp only[getsL]at y0 y1 y2 y3 y4 y5 y6;obtain⟨ma5,Wm⟩:=nmq a5.bare.len;rw[<-Wm];have j9:=hdq Wm;obtain⟨u3,UA⟩:=nmq (v3.setCell ⟨wr.heap.size,5,none⟩ (.slice Ba5 ma5 ea5))
   have GH:Fr NoT wr u3:=by rw[UA];exact Fr.high (FK.trans hf) (lrq _) _ _
   have FO:Fr (λb=>b=wr.heap.size) v3 u3:=by rw[UA];exact Fr.own (Fr.refl _ _) 5 _
   have FR:Bk u3 wr.heap.size 39 #[.int .u8 a0,.string a1,.slice Ba2 ma2 ea2,.slice Ba3 ma3 ea3,.slice Ba4 ma4 ea4,.slice Ba5 ma5 ea5,.int .i64 0]:=by
    rw[UA];have:=hk.set_ 5 (.slice Ba5 ma5 ea5);simpa using this
   have Kv:Fr (λb=>b=wr.heap.size) u2 u3:=hf.any.trans FO;have Ta2_3:=hdq (show SlR (λb o=>ExR u3 (New (wr.heap.size+1) u3) True a2.bare b o) a2.bare.len 64 Ba2 ea2 from Ta2_2.imp λ_ _ h=>ExR.more (λb hb=>⟨hb.1,ltq hb.2 Kv.size⟩) (ExR.keep (Kv.same λb hb=>⟨hb.2,λe=>by have e:b=wr.heap.size:=e;have h1:=hb.1;omega⟩) h));have Ta3_3:=hdq (show SlR (λb o=>CdR u3 (New (wr.heap.size+1) u3) True a3.bare b o) a3.bare.len 64 Ba3 ea3 from Ta3_2.imp λ_ _ h=>CdR.more (λb hb=>⟨hb.1,ltq hb.2 Kv.size⟩) (CdR.keep (Kv.same λb hb=>⟨hb.2,λe=>by have e:b=wr.heap.size:=e;have h1:=hb.1;omega⟩) h));have Ta4_3:=hdq (show SlR (λb o=>StR u3 (New (wr.heap.size+1) u3) True a4.bare b o) a4.bare.len 128 Ba4 ea4 from Ta4_2.imp λ_ _ h=>StR.more (λb hb=>⟨hb.1,ltq hb.2 Kv.size⟩) (StR.keep (Kv.same λb hb=>⟨hb.2,λe=>by have e:b=wr.heap.size:=e;have h1:=hb.1;omega⟩) h));have Ta5_3:=hdq (show SlR (λb o=>StR u3 (New (wr.heap.size+1) u3) True a5.bare b o) a5.bare.len 128 Ba5 ea5 from ta5.imp λ_ _ h=>StR.more (λb hb=>⟨by have h1:=hb.1;have:=Wk.lt;omega,ltq hb.2 FO.size⟩) (StR.keep (FO.same λb hb=>⟨hb.2,λe=>by have e:b=wr.heap.size:=e;have h1:=hb.1;have:=Wk.lt;omega⟩) h));have ka:=hdq GH;have xh:=hdq FR;have YB:=hdq UA;clear ta5 hf hk GH FO FR Kv UA Wm;obtain⟨w9,FY⟩:=nmq (u3.alloc (.cells #[.int .u8 a0,.string a1,.slice Ba2 ma2 ea2,.slice Ba3 ma3 ea3,.slice Ba4 ma4 ea4,.slice Ba5 ma5 ea5,.int .i64 0] 39));have hz:u3.heap.size=v3.heap.size:=by rw[YB.out];simp
   have Gm:Fr NoT wr w9:=by rw[FY];exact ka.alloc _
   have FM:Bk w9 v3.heap.size 39 ([.int .u8 a0,.string a1,.slice Ba2 ma2 ea2,.slice Ba3 ma3 ea3,.slice Ba4 ma4 ea4,.slice Ba5 ma5 ea5,.int .i64 0]:List Value).toArray :=by rw[FY];exact Bk.new_at _ _ _ hz
   have Fl:=World.ownsRow.kept (w':=w9) hb.row (row:=none) ⟨Gm.os,Gm.tape,Gm.output,Gm.size,λi hi _=>Gm.block i hi id⟩ (Classical.em _);have UP:Fr NoT u3 w9:=by rw[FY];exact(Fr.refl _ _).alloc _
   have Jj:=hdq Fl;have LW:=hdq FM;have MR:=hdq UP;have FT:=hdq Gm;have NL:=hdq FY;have LZ:w.heap.size<=w9.heap.size:=leq9 hb.fr.size Gm.size;have FN:(acc.length+1)*128<=140737488355328:=by have:=Ji.out;have:=hb.len;omega
   have Jt:acc.length+1<=9223372036854775807:=by have:=hb.len;omega
   clear FY Gm FM Fl UP hz;go_wp2_with (at_builtin;rw[<-YB.out,<-NL.out];refine zal _ rfl _ _ 25 rfl w.heap.size 39 i0 (.agg #[.int .u8 0,.string ⟨#[]⟩,.slice none 0 0,.slice none 0 0,.slice none 0 0,.slice none 0 0,.int .i64 0]) 7 128 Tryz.underlying25 HI.1 HI.2.1 HI.2.2.1 HI.2.2.2 rfl (by decide) _ _ _ rfl Jj.out ⟨v3.heap.size,0,none⟩ 1 1 _ rfl rfl LW.newsL ?c2 (by decide) ?c3 FN LZ ?_);case c2=>
    intro u hu;simp only[List.mem_cons,List.not_mem_nil,or_false]at hu;rcases hu with rfl|rfl|rfl|rfl|rfl|rfl|rfl<;>rfl
   case c3=>unfold maxLen;omega
   intro v' w10 Hg Hh GY;have Hq:=RowR.step zaB hb.row hb.fr.size hb.rows FT.out (y:=(⟨a0,a1,a2.bare,a3.bare,a4.bare,a5.bare,0⟩:St)) (zs:= [.int .u8 a0,.string a1,.slice Ba2 ma2 ea2,.slice Ba3 ma3 ea3,.slice Ba4 ma4 ea4,.slice Ba5 ma5 ea5,.int .i64 0])
    ⟨Ba2,ea2,Ba3,ea3,Ba4,ea4,Ba5,ea5,by rw[Rz.out,jZ.out,j7.out,j9.out],HR.out,by simp[in64],Ta2_3.imp λ_ _ h=>ExR.more (λb hb=>⟨by have h1:=hb.1;omega,ltq hb.2 MR.size⟩) (ExR.keep (MR.same λb hb=>⟨hb.2,id⟩) h),Ta3_3.imp λ_ _ h=>CdR.more (λb hb=>⟨by have h1:=hb.1;omega,ltq hb.2 MR.size⟩) (CdR.keep (MR.same λb hb=>⟨hb.2,id⟩) h),Ta4_3.imp λ_ _ h=>StR.more (λb hb=>⟨by have h1:=hb.1;omega,ltq hb.2 MR.size⟩) (StR.keep (MR.same λb hb=>⟨hb.2,id⟩) h),Ta5_3.imp λ_ _ h=>StR.more (λb hb=>⟨by have h1:=hb.1;omega,ltq hb.2 MR.size⟩) (StR.keep (MR.same λb hb=>⟨hb.2,id⟩) h)⟩ Hh GY
   have hlen:(acc++ [(⟨a0,a1,a2.bare,a3.bare,a4.bare,a5.bare,0⟩:St)]).length =acc.length+1:=by simp
   have F8:=hdq (show BsX w xs v' w10 (acc++ [⟨a0,a1,a2.bare,a3.bare,a4.bare,a5.bare,0⟩]) (cs++ [.int .u8 a0,.string a1,.slice Ba2 ma2 ea2,.slice Ba3 ma3 ea3,.slice Ba4 ma4 ea4,.slice Ba5 ma5 ea5,.int .i64 0]) (k+1)from
    ⟨by rw[hlen];exact Hg,Hq.1,Fr.back1 hb.fr Hq.2 (lrq _),by
     rw[zh6,Sts.drop_succ k xs HD.out,<-hb.eq,HD.out];rfl,by rw[hlen,hb.len]⟩)
   clear Hg Hh GY Hq hlen FN Jt LZ x0 z y0 y1 y2 y3 y4 y5 y6;go_wp2_with fail;go_roundw;case rel=>exact⟨k+1,by omega,by go_num,_,_,F8⟩
   case measure=>simp[intOf];omega
  ·have Hl:¬(k:Int) < (m:Int):=by omega
   have JK:k=m:=by omega
   have hle:xs.bare.len=acc.length:=by rw[zfY,<-HM.out,hb.len,JK]
   have heq:xs.bare=zao acc:=by
    rw[<-zfZ,<-hb.eq,Sts.drop_nil (by rw[<-HM.out];omega)];rfl
   obtain⟨A',c',he,Fh⟩:=RowR.slice zaB (sz:=128) hb.row hb.rows (by rw[hb.len,JK];exact Ji.out) (P:=λb o=>StR wr (New w.heap.size wr) True xs.bare b o) λg hg hr hc=>by
    rw[heq];exact rowS (o:=0) hg hr λj u hj=>by rw[Nat.zero_add];exact hc j u hj
   have HE:=hdq he;have J7:=hdq Fh;have K9:=hdq hle;clear heq hle he Fh;go_wp2_with fail;go_ret;refine⟨A',c',?_,?_,hb.fr⟩
   ·rw[K9.out,HE.out];rfl
   ·rw[K9.out];exact J7.out
theorem zfb:∀xs:Sts,BsI xs
 | .nil,i,_,_,_,_,_,_,_,_,h=>by cases i<;>simp[Sts.drop]at h
 | .cons k nm args cond body els at_ rest,0,a0,a1,a2,a3,a4,a5,a6,ar,h=>by
  simp only[Sts.drop,Sts.cons.injEq]at h;obtain⟨_,_,_,_,rfl,rfl,_,_⟩:=h;exact⟨zjG _ (zfb _),zjG _ (zfb _)⟩
 | .cons k nm args cond body els at_ rest,i+1,a0,a1,a2,a3,a4,a5,a6,ar,h=>by
  simp only[Sts.drop]at h;exact zfb rest i a0 a1 a2 a3 a4 a5 a6 ar h
theorem zeA (xs:Sts):BsC xs:=zjG xs (zfb xs)
def BvP (xs:List Va)(W:World)(e:Ending)(w':World):Prop:=∃A c,e= .returned (.slice A xs.length c)/\SlR (λb o=>VaR w' (New W.heap.size w') True xs b o) xs.length 24 A c/\Fr NoT W w'
structure BvX (W:World)(xs:List Va)(v:Value)(wr:World)(acc:List Va)(cs:List Value)(k:Nat):Prop where
 row:wr.ownsRow W.heap.size 43 2 v acc.length cs
 rows:RowR oneV wr (NewR W.heap.size v wr) acc cs
 fr:Fr NoT W wr
 eq:acc++(xs.drop k).map Va.bare=xs.map Va.bare
 len:acc.length=k
theorem zf0 (xs:List Va)(w:World)(S:Nat->Prop)(Z:Prop)(A:Option Addr)(c:Nat)(hS:∀b,S b->b < w.heap.size)(hx:SlR (λb o=>VaR w S Z xs b o) xs.length 24 A c):
  Calls Tryz.prog 24 #[.slice A xs.length c] w (BvP (xs.map Va.bare) w):=by
 obtain⟨i0,hi,Fe,Gh,Gn⟩:=info_parts zfI;have HI:=hdq (aiq hi (aiq Fe (aiq Gh Gn)));have hl:xs.length<=9223372036854775807:=leq9 hx.1 hx.2.1.1;have HX:=hdq hx;have HS:=hdq hS;obtain⟨m,hm⟩:=nmq xs.length;have Ji:=hdq (show m*24<=140737488355328 from by rw[hm];exact hx.2.1.2);rw[<-hm]at hl ⊢;have HM:=hdq hm;have JJ:=hdq (show BvX w xs (.slice none 0 0) w [] [] 0 from⟨World.ownsRow_nil _ _ _ _,rfl,Fr.refl _ _,rfl,rfl⟩);clear hx hS hm hi Fe Gh Gn;go_enter Tryz.func24,Tryz.ntmps24;go_wp2_with fail;go_loopw [3,4] (λv i wr=>∃k:Nat,k<=m/\i= .int .i64 k/\∃(acc:List Va)(cs:List Value),Hid (BvX w xs v wr acc cs k)) (λv i _=>m - (intOf i).toNat);case atStart=>exact⟨0,Nat.zero_le _,rfl, [], [],JJ⟩
 case round=>
  clear JJ;obtain⟨k,hk,rfl,acc,cs,hb⟩:=hrel;by_cases Hr:k < m
  ·obtain⟨⟨a0,a1⟩,ar,hd⟩:=zac (show k < xs.length from by rw[<-HM.out];exact Hr);obtain⟨b,o,rfl,Hd⟩:=HX.2.2 (by rw[<-HM.out];omega);have Hb:=(VaR.keep (hb.fr.same λb hb=>⟨HS b hb,id⟩) Hd).drop k;rw[hd.1]at Hb;obtain⟨⟨Hf,_,r0,c0,c1⟩,_⟩:=Hb;have Gf:b < wr.heap.size:=ltq (HS _ Hf) hb.fr.size;have Hl:(k:Int) < (m:Int):=by omega
   have Fb:(0:Int)<=(k:Int):=by omega
   simp only at c0 c1;have HD:=hdq hd;obtain⟨w9,FY⟩:=nmq (wr.alloc (.cells #[.string a0,.int .i64 0] 43));have Gm:Fr NoT wr w9:=by rw[FY];exact(Fr.refl _ _).alloc _
   have FM:Bk w9 wr.heap.size 43 ([.string a0,.int .i64 0]:List Value).toArray :=by rw[FY];exact Bk.new _ _ _
   have Fl:=World.ownsRow.kept (w':=w9) hb.row (row:=none) ⟨Gm.os,Gm.tape,Gm.output,Gm.size,λi hi _=>Gm.block i hi id⟩ (Classical.em _);have Jj:=hdq Fl;have LW:=hdq FM;have FT:=hdq Gm;have NL:=hdq FY;have LZ:w.heap.size<=w9.heap.size:=leq9 hb.fr.size Gm.size;have FN:(acc.length+1)*24<=140737488355328:=by have:=Ji.out;have:=hb.len;omega
   have Jt:acc.length+1<=9223372036854775807:=by have:=hb.len;omega
   clear hd Hd Hf r0 FY Gm FM Fl;go_wp2_with (at_builtin;rw[<-NL.out];refine zal _ rfl _ _ 22 rfl w.heap.size 43 i0 (.agg #[.string ⟨#[]⟩,.int .i64 0]) 2 24 Tryz.underlying22 HI.1 HI.2.1 HI.2.2.1 HI.2.2.2 rfl (by decide) _ _ _ rfl Jj.out ⟨wr.heap.size,0,none⟩ 1 1 _ rfl rfl LW.newsL ?c2 (by decide) ?c3 FN LZ ?_);case c2=>
    intro u hu;simp only[List.mem_cons,List.not_mem_nil,or_false]at hu;rcases hu with rfl|rfl<;>rfl
   case c3=>unfold maxLen;omega
   intro v' w10 Hg Hh GY;have Hq:=RowR.step zbD hb.row hb.fr.size hb.rows FT.out (y:=(⟨a0,0⟩:Va)) (zs:= [.string a0,.int .i64 0]) ⟨rfl,by simp[in64]⟩ Hh GY;have hlen:(acc++ [(⟨a0,0⟩:Va)]).length =acc.length+1:=by simp
   have F8:=hdq (show BvX w xs v' w10 (acc++ [⟨a0,0⟩]) (cs++ [.string a0,.int .i64 0]) (k+1)from
    ⟨by rw[hlen];exact Hg,Hq.1,Fr.back1 hb.fr Hq.2 (lrq _),by
     rw[<-hb.eq,HD.1,HD.2];simp[Va.bare],by rw[hlen,hb.len]⟩)
   clear Hg Hh GY Hq hlen FN Jt LZ c0 c1 Gf;go_wp2_with fail;go_roundw;case rel=>exact⟨k+1,by omega,by go_num,_,_,F8⟩
   case measure=>simp[intOf];omega
  ·have Hl:¬(k:Int) < (m:Int):=by omega
   have JK:k=m:=by omega
   have hle:(xs.map Va.bare).length =acc.length:=by rw[List.length_map,<-HM.out,hb.len,JK]
   have heq:xs.map Va.bare=acc:=by
    rw[<-hb.eq,List.drop_eq_nil_of_le (by rw[<-HM.out];omega)];simp
   obtain⟨A',c',he,Fh⟩:=RowR.slice zbD (sz:=24) hb.row hb.rows (by rw[hb.len,JK];exact Ji.out) (P:=λb o=>VaR wr (New w.heap.size wr) True (xs.map Va.bare) b o) λg hg hr hc=>by
    rw[heq];exact rowV (o:=0) hg hr λj u hj=>by rw[Nat.zero_add];exact hc j u hj
   have HE:=hdq he;have J7:=hdq Fh;have K9:=hdq hle;clear heq hle he Fh;go_wp2_with fail;go_ret;refine⟨A',c',?_,?_,hb.fr⟩
   ·rw[K9.out,HE.out];rfl
   ·rw[K9.out];exact J7.out
theorem znj:(Tryz.prog.info? 27).map (·.size)=some 4:=by kernel_rfl
def NewP (L U P:Nat):Nat->Prop:=λb=>L<=b/\b < U/\b≠P
structure BaQ (L U:Nat)(t:Tre)(P:Nat)(A1:Option Addr)(c1:Nat)(A4:Option Addr)(c4:Nat)(wx:World):Prop where
  up:U<=wx.heap.size
  vars:SlR (λb o=>VaR wx (NewP L U P) True (t.vars.map Va.bare) b o) (t.vars.map Va.bare).length 24 A1 c1
  main:SlR (λb o=>StR wx (NewP L U P) True t.main.bare b o) t.main.bare.len 128 A4 c4
theorem BaQ.fr {L U:Nat}{t:Tre}{P:Nat}{A1 A4:Option Addr}{c1 c4:Nat}{T:Nat->Prop}{w w':World}(h:BaQ L U t P A1 c1 A4 c4 w)(hf:Fr T w w')(hT:∀b,T b->b=P\/U<=b):BaQ L U t P A1 c1 A4 c4 w':=by
  have hs:SameS (NewP L U P) w w':=hf.same λb hb=>⟨ltq hb.2.1 h.up,λe=>by
    rcases hT b e with e|e
    · exact hb.2.2 e
    · have:=hb.2.1;omega⟩
  exact⟨leq9 h.up hf.size,h.vars.imp λ_ _ h=>VaR.keep hs h,h.main.imp λ_ _ h=>StR.keep hs h⟩
theorem BaQ.more {L U U':Nat}{t:Tre}{P:Nat}{A1 A4:Option Addr}{c1 c4:Nat}{w:World}(h:BaQ L U t P A1 c1 A4 c4 w)(hu:U<=U')(hw:U'<=w.heap.size):BaQ L U' t P A1 c1 A4 c4 w:=
  ⟨hw,h.vars.imp λ_ _ h=>VaR.more (λb hb=>⟨hb.1,ltq hb.2.1 hu,hb.2.2⟩) h,h.main.imp λ_ _ h=>StR.more (λb hb=>⟨hb.1,ltq hb.2.1 hu,hb.2.2⟩) h⟩
theorem BaQ.of {L:Nat}{t:Tre}{P:Nat}{A1 A4:Option Addr}{c1 c4:Nat}{u5 w5 u7 w7 wx:World}(h1:SlR (λb o=>VaR w5 (New u5.heap.size w5) True (t.vars.map Va.bare) b o) (t.vars.map Va.bare).length 24 A1 c1)
    (h4:SlR (λb o=>StR w7 (New u7.heap.size w7) True t.main.bare b o) t.main.bare.len 128 A4 c4) (f5:Fr (λb=>b=P) w5 wx) (f7:Fr (λb=>b=P) w7 wx) (hL:L<=u5.heap.size/\L<=u7.heap.size)
    (xg:P < u5.heap.size\/w5.heap.size<=P) (Dd:P < u7.heap.size\/w7.heap.size<=P):BaQ L wx.heap.size t P A1 c1 A4 c4 wx:=
  ⟨lrq _,h1.imp λ_ _ h=>VaR.more (λb hb=>⟨by have:=hb.1;omega,by have:=hb.2;have:=f5.size;omega,by have h1:=hb.1;have h2:=hb.2;omega⟩) (VaR.keep (f5.same λb hb=>⟨hb.2,by have h1:=hb.1;have h2:=hb.2;intro e;have e:b=P:=e;omega⟩) h),
   h4.imp λ_ _ h=>StR.more (λb hb=>⟨by have:=hb.1;omega,by have:=hb.2;have:=f7.size;omega,by have h1:=hb.1;have h2:=hb.2;omega⟩) (StR.keep (f7.same λb hb=>⟨hb.2,by have h1:=hb.1;have h2:=hb.2;intro e;have e:b=P:=e;omega⟩) h)⟩
structure TaX (w1 wc:World)(t:Tre)(P:Nat)(A1:Option Addr)(c1:Nat)(A4:Option Addr)(c4:Nat)(v:Value)(wr:World)(acc:List Arr)(cs:List Value)(k:Nat):Prop where
  fr:Fr NoT w1 wr
  bk:Bk wr P 27 #[.slice A1 t.vars.length c1,v,.slice none 0 0,.slice A4 t.main.bare.len c4]
  bq:BaQ w1.heap.size wc.heap.size t P A1 c1 A4 c4 wr
  sz:wc.heap.size<=wr.heap.size
  row:wr.ownsRow wc.heap.size 66 3 v acc.length cs
  rows:RowR oneA wr (NewR wc.heap.size v wr) acc cs
  eq:acc++(t.arrays.drop k).map Arr.bare=t.arrays.map Arr.bare
  len:acc.length=k
theorem TaX.step {w1 wc:World}{t:Tre}{P:Nat}{A1:Option Addr}{c1:Nat}{A4:Option Addr}{c4:Nat}{v:Value}{wr:World}{acc:List Arr}{cs:List Value}{k:Nat}(h:TaX w1 wc t P A1 c1 A4 c4 v wr acc cs k)
    (hP:w1.heap.size<=P) (Wn:P < wc.heap.size) {a0:ByteArray} {a1 a2:Int} {ar:List Arr} (hd:t.arrays.drop k=(⟨a0,a1,a2⟩:Arr)::ar/\t.arrays.drop (k+1)=ar) (Gb:in64 a1) {w8 w9:World} (h8:w8=(wr.alloc (.cells #[.string a0,.int .i64 a1,.int .i64 0] 66)).drew) {g cap:Nat}
    (Hg:w9.ownsRow wc.heap.size 66 3 (.slice (some ⟨g,0,none⟩) (acc.length+1) cap) (acc.length+1) (cs++ [.string a0,.int .i64 a1,.int .i64 0])) (hg:w8.grownBy w9 v.ownBlock) (GP:v.ownBlock=some g\/g=w8.heap.size):
    TaX w1 wc t P A1 c1 A4 c4 (.slice (some ⟨g,0,none⟩) (acc.length+1) cap) (w9.setCell ⟨P,1,none⟩ (.slice (some ⟨g,0,none⟩) (acc.length+1) cap)) (acc++ [⟨a0,a1,0⟩]) (cs++ [.string a0,.int .i64 a1,.int .i64 0]) (k+1):=by
  have Gj:Fr NoT wr w8:=by rw[h8];exact((Fr.refl _ _).alloc _).drew
  have Hq:=RowR.step zbV h.row h.sz h.rows Gj (y:=(⟨a0,a1,0⟩:Arr)) (zs:= [.string a0,.int .i64 a1,.int .i64 0]) ⟨rfl,Gb,by simp[in64]⟩ hg (v':= .slice (some ⟨g,0,none⟩) (acc.length+1) cap) (by
    rcases GP with e|e
    · exact .inl (by rw[e];rfl)
    · exact .inr (by rw[e];rfl))
  have hlen:(acc++ [(⟨a0,a1,0⟩:Arr)]).length =acc.length+1:=by simp
  have hn:¬wc.heap.size<=P:=by omega
  have Po:Fr (λb=>b=P) w9 (w9.setCell ⟨P,1,none⟩ (.slice (some ⟨g,0,none⟩) (acc.length+1) cap)):=Fr.own (Fr.refl _ _) _ _;have FM:Bk w9 P 27 #[.slice A1 t.vars.length c1,v,.slice none 0 0,.slice A4 t.main.bare.len c4]:=h.bk.fr Hq.2 hn;have Nr:=(Hg.lt g rfl).1;refine⟨Fr.high (Fr.back1 h.fr Hq.2 (by have:=hn;omega)) hP _ _,?_,?_,?_,?_,?_,?_,by rw[hlen,h.len]⟩
  · have:=FM.set_ 1 (.slice (some ⟨g,0,none⟩) (acc.length+1) cap);simpa using this
  · exact(h.bq.fr Hq.2 λb e=> .inr e).fr Po λb e=> .inl e
  · have:=h.sz;have:=Hq.2.size;have:=Po.size;omega
  · rw[hlen];have:=ownsRow_setCell_below Hg (a:=⟨P,1,none⟩) (by exact Wn) (.slice (some ⟨g,0,none⟩) (acc.length+1) cap);simpa using this
  · exact RowR.imp zbV (Po.same λb hb=>⟨hb.2.1,λe=>by have e:b=P:=e;have:=hb.1;omega⟩) (λb hb=>⟨hb.1,ltq hb.2.1 Po.size,hb.2.2⟩) Hq.1
  · rw[<-h.eq,hd.1,hd.2];simp[Arr.bare]
def BaP (t:Tre)(W:World)(e:Ending)(w':World):Prop:=∃Av Aa Ap Am cv ca cp cm,e= .returned (trV t Av Aa Ap Am cv ca cp cm)/\TrR w' (New W.heap.size w') True t Av Aa Ap Am cv ca cp cm/\Fr NoT W w'
structure TpX (w1 wd:World)(t:Tre)(P:Nat)(A1:Option Addr)(c1:Nat)(A2:Option Addr)(c2:Nat)(A4:Option Addr)(c4:Nat)(v:Value)(wr:World)(acc:List Prc)(cs:List Value)(k:Nat):Prop where
  fr:Fr NoT w1 wr
  bk:Bk wr P 27 #[.slice A1 t.vars.length c1,.slice A2 t.arrays.length c2,v,.slice A4 t.main.bare.len c4]
  bq:BaQ w1.heap.size wd.heap.size t P A1 c1 A4 c4 wr
  ba:SlR (λb o=>ArR wr (NewP w1.heap.size wd.heap.size P) True (t.arrays.map Arr.bare) b o) (t.arrays.map Arr.bare).length 32 A2 c2
  sz:wd.heap.size<=wr.heap.size
  row:wr.ownsRow wd.heap.size 68 4 v acc.length cs
  rows:RowR oneP wr (NewR wd.heap.size v wr) acc cs
  eq:acc++(t.procs.drop k).map Prc.bare=t.procs.map Prc.bare
  len:acc.length=k
theorem TpX.step {w1 wd:World}{t:Tre}{P:Nat}{A1:Option Addr}{c1:Nat}{A2:Option Addr}{c2:Nat}{A4:Option Addr}{c4:Nat}{v:Value}{wr:World}{acc:List Prc}{cs:List Value}{k:Nat}(h:TpX w1 wd t P A1 c1 A2 c2 A4 c4 v wr acc cs k)
    (hP:w1.heap.size<=P) (Wn:P < wd.heap.size) {x:Prc} {ar:List Prc} (hd:t.procs.drop k=x::ar/\t.procs.drop (k+1)=ar) {w8 w9:World} (Gj:Fr NoT wr w8) {B1 B2:Option Addr} {e1 e2:Nat} {zs:List Value} (Lh:zs= [.string x.nm,.slice B1 (x.params.map Va.bare).length e1,.slice B2 x.body.bare.len e2,.int .i64 0])
    (h1:SlR (λb o=>VaR w8 (λb=>wr.heap.size<=b/\b < w8.heap.size) True (x.params.map Va.bare) b o) (x.params.map Va.bare).length 24 B1 e1)
    (h2:SlR (λb o=>StR w8 (λb=>wr.heap.size<=b/\b < w8.heap.size) True x.body.bare b o) x.body.bare.len 128 B2 e2) {g cap:Nat}
    (Hg:w9.ownsRow wd.heap.size 68 4 (.slice (some ⟨g,0,none⟩) (acc.length+1) cap) (acc.length+1) (cs++zs)) (hg:w8.grownBy w9 v.ownBlock) (GP:v.ownBlock=some g\/g=w8.heap.size):
    TpX w1 wd t P A1 c1 A2 c2 A4 c4 (.slice (some ⟨g,0,none⟩) (acc.length+1) cap) (w9.setCell ⟨P,2,none⟩ (.slice (some ⟨g,0,none⟩) (acc.length+1) cap)) (acc++ [x.bare]) (cs++zs) (k+1):=by
  have Hq:=RowR.step zdw h.row h.sz h.rows Gj (y:=x.bare) (zs:=zs) ⟨B1,e1,B2,e2,Lh,by simp[in64,Prc.bare],h1,h2⟩ hg (v':= .slice (some ⟨g,0,none⟩) (acc.length+1) cap) (by
    rcases GP with e|e
    · exact .inl (by rw[e];rfl)
    · exact .inr (by rw[e];rfl))
  have hlen:(acc++ [x.bare]).length =acc.length+1:=by simp
  have hn:¬wd.heap.size<=P:=by omega
  have Po:Fr (λb=>b=P) w9 (w9.setCell ⟨P,2,none⟩ (.slice (some ⟨g,0,none⟩) (acc.length+1) cap)):=Fr.own (Fr.refl _ _) _ _;have FM:=h.bk.fr Hq.2 hn;refine⟨Fr.high (Fr.back1 h.fr Hq.2 (by have:=hn;omega)) hP _ _,?_,?_,?_,?_,?_,?_,?_,by rw[hlen,h.len]⟩
  · have:=FM.set_ 2 (.slice (some ⟨g,0,none⟩) (acc.length+1) cap);simpa using this
  · exact(h.bq.fr Hq.2 λb e=> .inr e).fr Po λb e=> .inl e
  · have hs:SameS (NewP w1.heap.size wd.heap.size P) wr (w9.setCell ⟨P,2,none⟩ (.slice (some ⟨g,0,none⟩) (acc.length+1) cap)):=
      (Hq.2.same λb hb=>⟨ltq hb.2.1 h.sz,by have h1:=hb.2.1;exact λe=>by have e:wd.heap.size<=b:=e;omega⟩).trans (Po.same λb hb=>⟨ltq (ltq hb.2.1 h.sz) Hq.2.size,hb.2.2⟩)
    exact h.ba.imp λ_ _ h=>ArR.keep hs h
  · have:=h.sz;have:=Hq.2.size;have:=Po.size;omega
  · rw[hlen];have:=ownsRow_setCell_below Hg (a:=⟨P,2,none⟩) (by exact Wn) (.slice (some ⟨g,0,none⟩) (acc.length+1) cap);simpa using this
  · exact RowR.imp zdw (Po.same λb hb=>⟨hb.2.1,λe=>by have e:b=P:=e;have:=hb.1;omega⟩) (λb hb=>⟨hb.1,ltq hb.2.1 Po.size,hb.2.2⟩) Hq.1
  · rw[<-h.eq,hd.1,hd.2];simp
