/- ref10.mayStmt, kinds 4, 9, 5. -/
import Derived.Test.YtmopichdofgndaaGreatDoorJnCkC
set_option linter.all false
set_option maxHeartbeats 6400000
set_option maxRecDepth 100000
namespace Go.Proofs.YtmopichdofgndaaGreatDoor
open Go.RowKit Go.Shelf
theorem zm9 (nm:ByteArray)(args:Exs)(cond:Cds)(body els:Sts)(at_:Int)(w:World)(S:Nat->Prop)(Z:Prop)(A2 A3 A4 A5:Option Addr)(q2 q3 q4 q5:Nat)(hs:nm.size<=9223372036854775807)(hS:∀b,S b->b < w.heap.size)(Gh:szX args)(Gn:szC cond)
  (hx:SlR (λb o=>ExR w S Z args b o) args.len 64 A2 q2) (hy:SlR (λb o=>CdR w S Z cond b o) cond.len 64 A3 q3) (Gy:body.len<=9223372036854775807) (GN:els.len<=9223372036854775807)
  (h4:∀W,Fr NoT w W->Calls Tryz.prog 105 #[.slice A4 body.len q4] W (zae (okS body) W)) (h5:∀W,Fr NoT w W->Calls Tryz.prog 105 #[.slice A5 els.len q5] W (zae (okS els) W)):
  Calls Tryz.prog 168 #[.agg #[.int .u8 4,.string nm,.slice A2 args.len q2,.slice A3 cond.len q3,.slice A4 body.len q4,.slice A5 els.len q5,.int .i64 at_]] w (zae (okT 4 nm args cond body els at_) w):=by
 have Gl:args.len<=9223372036854775807:=leq9 hx.1 hx.2.1.1;have Gz:cond.len<=9223372036854775807:=leq9 hy.1 hy.2.1.1;obtain⟨R,hR⟩:=nmq (okT 4 nm args cond body els at_);rw[<-hR];have Fa:zak nm.data.toList=true->(nm.toList== [])=false:=zcf;have hR:R=((zak nm.data.toList)&&((args.len:Int)==0)&&((cond.len:Int)==0)&&(body.len==0)&&(els.len==0)&&okX args&&okC cond&&okS body&&okS els):=hR.trans (by rfl);have Jd:=λ(W:World)(hf:Fr NoT w W)=>zaP args W S Z A2 q2 0 (λb h=>ltq (hS b h) hf.size) Gh (hx.imp λ_ _ hx=>ExR.keep (hf.same λb hb=>⟨hS b hb,id⟩) hx);obtain⟨l,hl⟩:=nmq args.len;obtain⟨lc,Fw⟩:=nmq cond.len;obtain⟨lb,Jz⟩:=nmq body.len;obtain⟨le,hle⟩:=nmq els.len;obtain⟨q,hq⟩:=nmq (zak nm.data.toList);obtain⟨b,hb⟩:=nmq ((nm.toList== []));obtain⟨u,hu⟩:=nmq (okC cond);obtain⟨x4,FQ⟩:=nmq (okS body);obtain⟨x5,J1⟩:=nmq (okS els);have Fi:=λ(W:World)=>zaE nm hs W;rw[<-hl]at Gl Jd;rw[<-Fw]at Gz;rw[<-Jz]at Gy h4;rw[<-hle]at GN h5;rw[<-hq]at Fi Fa;rw[<-hb]at Fa;rw[<-FQ]at h4;rw[<-J1]at h5;obtain⟨v1,FF⟩:=nmq ((((l:Int)==0)&&okX args));rw[<-FF]at Jd;have Lf:R=(q&&v1&&((lc:Int)==0)&&u&&(lb==0)&&(le==0)&&x4&&x5):=by
  rw[hR,FF,<-hl,<-Fw,<-Jz,<-hle,<-hu,<-FQ,<-J1,<-hq]
  ac_rfl
 rw[<-hl,<-Fw,<-Jz,<-hle];have HR:=hdq Lf;have F4:=hdq Fi;have MY:=hdq Jd;have H4:=hdq h4;have H5:=hdq h5;have HQ:=hdq Fa;have Lt:=hdq Fw;have HU:=hdq hu;have HS:=hdq hS;have eb:(nm.toList== [])=b:=hb.symm;have eb2:(nm.toList != [])= !b:=by rw[hb];rfl
 have Hi:Fr NoT w (w.alloc (.cells #[.int .u8 4,.string nm,.slice A2 l q2,.slice A3 lc q3,.slice A4 lb q4,.slice A5 le q5,.int .i64 at_] 39)):=(Fr.refl _ _).alloc _;have Hn:=hdq Hi;have Hu:=hdq (Bk.new w 39 #[.int .u8 4,.string nm,.slice A2 l q2,.slice A3 lc q3,.slice A4 lb q4,.slice A5 le q5,.int .i64 at_]);clear Hi hR Lf Jd h4 h5 Fa Fw Jz hle hl hu hS hb Fi hx hy Gh Gn hs hq FQ J1 FF;go_enter Tryz.func168,Tryz.ntmps168;go_wp2_with fail;refine(F4 _).mono ?_;rintro _ w2 ⟨rfl,F0⟩;have hb:=Fr.below (T:=NoT) F0;have He:=Hu.fr0 hb;have Hy:=hdq (Hn.trans hb);have c0:=He.cell 0;have c2:=He.cell 2;have c1:=He.cell 1;have c3:=He.cell 3;have c4:=He.cell 4;have c5:=He.cell 5;have Hv:=He.lt;simp only[getsL]at c0 c1 c2 c3 c4 c5;have Jy:=hdq He;clear hb He;clear F0;cases q
 ·have HF:=hdq (show R=false from by rw[HR.out];simp);clear HR;go_wp2_with fail;go_ret;exact⟨by rw[HF.out];rfl,Hy.out⟩
 go_wp2_with fail;refine(MY _ Hy.out).mono ?_;rintro _ w3 ⟨rfl,hb⟩;clear c0 c1 c2 c3 c4 c5 Hv;have Hw:=Jy.fr0 hb;have Gc:=hdq (Hy.trans hb);have c0:=Hw.cell 0;have c2:=Hw.cell 2;have c1:=Hw.cell 1;have c3:=Hw.cell 3;have c4:=Hw.cell 4;have c5:=Hw.cell 5;have Hv:=Hw.lt;simp only[getsL]at c0 c1 c2 c3 c4 c5;have Kd:=hdq Hw;clear hb Hw;cases v1
 ·have HF:=hdq (show R=false from by rw[HR.out];simp);clear HR;go_wp2_with fail;go_ret;exact⟨by rw[HF.out];rfl,Gc.out⟩
 have JH:lc=0\/lc=1\/(lc≠0/\lc≠1):=by omega
 rcases JH with rfl|rfl|⟨n0,n1⟩;rotate_left
 ·have HF:=hdq (show R=false from by rw[HR.out];simp);clear HR;go_wp2_with fail;go_ret;exact⟨by rw[HF.out];rfl,Gc.out⟩
 ·have e1:((lc:Int)==1)=false:=by simp;omega
  have e2:((lc:Int) != 0)=true:=by simp;omega
  have HF:=hdq (show R=false from by rw[HR.out,show((lc:Int)==0)=false from by simp;omega];simp);clear HR;go_wp2_with fail;go_ret;exact⟨by rw[HF.out];rfl,Gc.out⟩
 have JA:u=true:=by
  rw[HU.out];have:=Lt.out;cases cond with
  |nil=>rfl
  |cons _ _ _ _ _=>simp[Cds.len]at this
 subst JA;by_cases KM:lb=0
 rotate_left
 ·have e1:decide ((0:Int) < (lb:Int))=true:=by simp;omega
  have HF:=hdq (show R=false from by rw[HR.out,show(lb==0)=false from by simpa using KM];simp);clear HR;go_wp2_with fail;go_ret;exact⟨by rw[HF.out];rfl,Gc.out⟩
 subst KM;by_cases Kp:le=0
 rotate_left
 ·have e2:decide ((0:Int) < (le:Int))=true:=by simp;omega
  have HF:=hdq (show R=false from by rw[HR.out,show(le==0)=false from by simpa using Kp];simp);clear HR;go_wp2_with fail;go_ret;exact⟨by rw[HF.out];rfl,Gc.out⟩
 subst Kp;go_wp2_with fail;refine(H4 _ Gc.out).mono ?_;rintro _ w8 ⟨rfl,hb⟩;clear c0 c1 c2 c3 c4 c5 Hv;have Hk:=Kd.fr0 hb;have GD:=hdq (Gc.trans hb);have c0:=Hk.cell 0;have c2:=Hk.cell 2;have c1:=Hk.cell 1;have c3:=Hk.cell 3;have c4:=Hk.cell 4;have c5:=Hk.cell 5;have Hv:=Hk.lt;simp only[getsL]at c0 c1 c2 c3 c4 c5;have SZ:=hdq Hk;clear hb Hk;cases x4
 ·have HF:=hdq (show R=false from by rw[HR.out];simp);clear HR;go_wp2_with fail;go_ret;exact⟨by rw[HF.out];rfl,GD.out⟩
 go_wp2_with fail;refine(H5 _ GD.out).mono ?_;rintro _ w9 ⟨rfl,hb⟩;have FT:=hdq (GD.trans hb);clear hb;have HF:=hdq (show R=x5 from by rw[HR.out];simp);clear HR;go_wp2_with fail;go_ret;exact⟨by rw[HF.out];rfl,FT.out⟩
theorem zna (nm:ByteArray)(args:Exs)(cond:Cds)(body els:Sts)(at_:Int)(w:World)(S:Nat->Prop)(Z:Prop)(A2 A3 A4 A5:Option Addr)(q2 q3 q4 q5:Nat)(hs:nm.size<=9223372036854775807)(hS:∀b,S b->b < w.heap.size)(Gh:szX args)(Gn:szC cond)
  (hx:SlR (λb o=>ExR w S Z args b o) args.len 64 A2 q2) (hy:SlR (λb o=>CdR w S Z cond b o) cond.len 64 A3 q3) (Gy:body.len<=9223372036854775807) (GN:els.len<=9223372036854775807)
  (h4:∀W,Fr NoT w W->Calls Tryz.prog 105 #[.slice A4 body.len q4] W (zae (okS body) W)) (h5:∀W,Fr NoT w W->Calls Tryz.prog 105 #[.slice A5 els.len q5] W (zae (okS els) W)):
  Calls Tryz.prog 168 #[.agg #[.int .u8 9,.string nm,.slice A2 args.len q2,.slice A3 cond.len q3,.slice A4 body.len q4,.slice A5 els.len q5,.int .i64 at_]] w (zae (okT 9 nm args cond body els at_) w):=by
 have Gl:args.len<=9223372036854775807:=leq9 hx.1 hx.2.1.1;have Gz:cond.len<=9223372036854775807:=leq9 hy.1 hy.2.1.1;obtain⟨R,hR⟩:=nmq (okT 9 nm args cond body els at_);rw[<-hR];have Fa:zak nm.data.toList=true->(nm.toList== [])=false:=zcf;have hR:R=((zak nm.data.toList)&&true&&((cond.len:Int)==0)&&(body.len==0)&&(els.len==0)&&okX args&&okC cond&&okS body&&okS els):=hR.trans (by rfl);have Jd:=λ(W:World)(hf:Fr NoT w W)=>zaP args W S Z A2 q2 (args.len:Int) (λb h=>ltq (hS b h) hf.size) Gh (hx.imp λ_ _ hx=>ExR.keep (hf.same λb hb=>⟨hS b hb,id⟩) hx);obtain⟨l,hl⟩:=nmq args.len;obtain⟨lc,Fw⟩:=nmq cond.len;obtain⟨lb,Jz⟩:=nmq body.len;obtain⟨le,hle⟩:=nmq els.len;obtain⟨q,hq⟩:=nmq (zak nm.data.toList);obtain⟨b,hb⟩:=nmq ((nm.toList== []));obtain⟨u,hu⟩:=nmq (okC cond);obtain⟨x4,FQ⟩:=nmq (okS body);obtain⟨x5,J1⟩:=nmq (okS els);have Fi:=λ(W:World)=>zaE nm hs W;rw[<-hl]at Gl Jd;rw[<-Fw]at Gz;rw[<-Jz]at Gy h4;rw[<-hle]at GN h5;rw[<-hq]at Fi Fa;rw[<-hb]at Fa;rw[<-FQ]at h4;rw[<-J1]at h5;obtain⟨v1,FF⟩:=nmq ((((l:Int)==(l:Int))&&okX args));rw[<-FF]at Jd;have Lf:R=(q&&v1&&((lc:Int)==0)&&u&&(lb==0)&&(le==0)&&x4&&x5):=by
  rw[hR,FF,<-Fw,<-Jz,<-hle,<-hu,<-FQ,<-J1,<-hq];rw[show((l:Int)==(l:Int))=true from by simp,Bool.true_and,Bool.and_true]
  ac_rfl
 rw[<-hl,<-Fw,<-Jz,<-hle];have HR:=hdq Lf;have F4:=hdq Fi;have MY:=hdq Jd;have H4:=hdq h4;have H5:=hdq h5;have HQ:=hdq Fa;have Lt:=hdq Fw;have HU:=hdq hu;have HS:=hdq hS;have eb:(nm.toList== [])=b:=hb.symm;have eb2:(nm.toList != [])= !b:=by rw[hb];rfl
 have Hi:Fr NoT w (w.alloc (.cells #[.int .u8 9,.string nm,.slice A2 l q2,.slice A3 lc q3,.slice A4 lb q4,.slice A5 le q5,.int .i64 at_] 39)):=(Fr.refl _ _).alloc _;have Hn:=hdq Hi;have Hu:=hdq (Bk.new w 39 #[.int .u8 9,.string nm,.slice A2 l q2,.slice A3 lc q3,.slice A4 lb q4,.slice A5 le q5,.int .i64 at_]);clear Hi hR Lf Jd h4 h5 Fa Fw Jz hle hl hu hS hb Fi hx hy Gh Gn hs hq FQ J1 FF;go_enter Tryz.func168,Tryz.ntmps168;go_wp2_with fail;refine(F4 _).mono ?_;rintro _ w2 ⟨rfl,F0⟩;have hb:=Fr.below (T:=NoT) F0;have He:=Hu.fr0 hb;have Hy:=hdq (Hn.trans hb);have c0:=He.cell 0;have c2:=He.cell 2;have c1:=He.cell 1;have c3:=He.cell 3;have c4:=He.cell 4;have c5:=He.cell 5;have Hv:=He.lt;simp only[getsL]at c0 c1 c2 c3 c4 c5;have Jy:=hdq He;clear hb He;clear F0;cases q
 ·have HF:=hdq (show R=false from by rw[HR.out];simp);clear HR;go_wp2_with fail;go_ret;exact⟨by rw[HF.out];rfl,Hy.out⟩
 go_wp2_with fail;refine(MY _ Hy.out).mono ?_;rintro _ w3 ⟨rfl,hb⟩;clear c0 c1 c2 c3 c4 c5 Hv;have Hw:=Jy.fr0 hb;have Gc:=hdq (Hy.trans hb);have c0:=Hw.cell 0;have c2:=Hw.cell 2;have c1:=Hw.cell 1;have c3:=Hw.cell 3;have c4:=Hw.cell 4;have c5:=Hw.cell 5;have Hv:=Hw.lt;simp only[getsL]at c0 c1 c2 c3 c4 c5;have Kd:=hdq Hw;clear hb Hw;cases v1
 ·have HF:=hdq (show R=false from by rw[HR.out];simp);clear HR;go_wp2_with fail;go_ret;exact⟨by rw[HF.out];rfl,Gc.out⟩
 have JH:lc=0\/lc=1\/(lc≠0/\lc≠1):=by omega
 rcases JH with rfl|rfl|⟨n0,n1⟩;rotate_left
 ·have HF:=hdq (show R=false from by rw[HR.out];simp);clear HR;go_wp2_with fail;go_ret;exact⟨by rw[HF.out];rfl,Gc.out⟩
 ·have e1:((lc:Int)==1)=false:=by simp;omega
  have e2:((lc:Int) != 0)=true:=by simp;omega
  have HF:=hdq (show R=false from by rw[HR.out,show((lc:Int)==0)=false from by simp;omega];simp);clear HR;go_wp2_with fail;go_ret;exact⟨by rw[HF.out];rfl,Gc.out⟩
 have JA:u=true:=by
  rw[HU.out];have:=Lt.out;cases cond with
  |nil=>rfl
  |cons _ _ _ _ _=>simp[Cds.len]at this
 subst JA;by_cases KM:lb=0
 rotate_left
 ·have e1:decide ((0:Int) < (lb:Int))=true:=by simp;omega
  have HF:=hdq (show R=false from by rw[HR.out,show(lb==0)=false from by simpa using KM];simp);clear HR;go_wp2_with fail;go_ret;exact⟨by rw[HF.out];rfl,Gc.out⟩
 subst KM;by_cases Kp:le=0
 rotate_left
 ·have e2:decide ((0:Int) < (le:Int))=true:=by simp;omega
  have HF:=hdq (show R=false from by rw[HR.out,show(le==0)=false from by simpa using Kp];simp);clear HR;go_wp2_with fail;go_ret;exact⟨by rw[HF.out];rfl,Gc.out⟩
 subst Kp;go_wp2_with fail;refine(H4 _ Gc.out).mono ?_;rintro _ w8 ⟨rfl,hb⟩;clear c0 c1 c2 c3 c4 c5 Hv;have Hk:=Kd.fr0 hb;have GD:=hdq (Gc.trans hb);have c0:=Hk.cell 0;have c2:=Hk.cell 2;have c1:=Hk.cell 1;have c3:=Hk.cell 3;have c4:=Hk.cell 4;have c5:=Hk.cell 5;have Hv:=Hk.lt;simp only[getsL]at c0 c1 c2 c3 c4 c5;have SZ:=hdq Hk;clear hb Hk;cases x4
 ·have HF:=hdq (show R=false from by rw[HR.out];simp);clear HR;go_wp2_with fail;go_ret;exact⟨by rw[HF.out];rfl,GD.out⟩
 go_wp2_with fail;refine(H5 _ GD.out).mono ?_;rintro _ w9 ⟨rfl,hb⟩;have FT:=hdq (GD.trans hb);clear hb;have HF:=hdq (show R=x5 from by rw[HR.out];simp);clear HR;go_wp2_with fail;go_ret;exact⟨by rw[HF.out];rfl,FT.out⟩
theorem znb (nm:ByteArray)(args:Exs)(cond:Cds)(body els:Sts)(at_:Int)(w:World)(S:Nat->Prop)(Z:Prop)(A2 A3 A4 A5:Option Addr)(q2 q3 q4 q5:Nat)(hs:nm.size<=9223372036854775807)(hS:∀b,S b->b < w.heap.size)(Gh:szX args)(Gn:szC cond)
  (hx:SlR (λb o=>ExR w S Z args b o) args.len 64 A2 q2) (hy:SlR (λb o=>CdR w S Z cond b o) cond.len 64 A3 q3) (Gy:body.len<=9223372036854775807) (GN:els.len<=9223372036854775807)
  (h4:∀W,Fr NoT w W->Calls Tryz.prog 105 #[.slice A4 body.len q4] W (zae (okS body) W)) (h5:∀W,Fr NoT w W->Calls Tryz.prog 105 #[.slice A5 els.len q5] W (zae (okS els) W)):
  Calls Tryz.prog 168 #[.agg #[.int .u8 5,.string nm,.slice A2 args.len q2,.slice A3 cond.len q3,.slice A4 body.len q4,.slice A5 els.len q5,.int .i64 at_]] w (zae (okT 5 nm args cond body els at_) w):=by
 have Gl:args.len<=9223372036854775807:=leq9 hx.1 hx.2.1.1;have Gz:cond.len<=9223372036854775807:=leq9 hy.1 hy.2.1.1;obtain⟨R,hR⟩:=nmq (okT 5 nm args cond body els at_);rw[<-hR];have Fa:zak nm.data.toList=true->(nm.toList== [])=false:=zcf;have hR:R=(((nm.toList== []))&&((args.len:Int)==0)&&((cond.len:Int)==1)&&(body.len==0)&&(els.len==0)&&okX args&&okC cond&&okS body&&okS els):=hR.trans (by rfl);have Jd:=λ(W:World)(hf:Fr NoT w W)=>zaP args W S Z A2 q2 0 (λb h=>ltq (hS b h) hf.size) Gh (hx.imp λ_ _ hx=>ExR.keep (hf.same λb hb=>⟨hS b hb,id⟩) hx);have Qp:=λ(a0:Int)(a1:Exs)(a2:Cds)(a3:Int)(ar:Cds)(hd:Cds.drop 0 cond= .cons a0 a1 a2 a3 ar)(W:World)(A2 A3:Option Addr)(q2 q3:Nat)(hf:Fr NoT w W)=>zct a0 a1 a2 a3 W S Z A2 A3 q2 q3 (λb h=>ltq (hS b h) hf.size) (zbe 0 Gn hd).1 (zbe 0 Gn hd).2;have jw:=λ(a0:Int)(a1:Exs)(a2:Cds)(a3:Int)(ar:Cds)(hd:Cds.drop 0 cond= .cons a0 a1 a2 a3 ar)=>hy.2.2 (by have:=congrArg Cds.len hd;simp only[Cds.drop,Cds.len]at this;omega);have Rp:=hdq Qp;have HY:=hdq hy;obtain⟨l,hl⟩:=nmq args.len;obtain⟨lc,Fw⟩:=nmq cond.len;obtain⟨lb,Jz⟩:=nmq body.len;obtain⟨le,hle⟩:=nmq els.len;obtain⟨q,hq⟩:=nmq (zak nm.data.toList);obtain⟨b,hb⟩:=nmq ((nm.toList== []));obtain⟨u,hu⟩:=nmq (okC cond);obtain⟨x4,FQ⟩:=nmq (okS body);obtain⟨x5,J1⟩:=nmq (okS els);have Fi:=λ(W:World)=>zaE nm hs W;rw[<-hl]at Gl Jd;rw[<-Fw]at Gz;rw[<-Jz]at Gy h4;rw[<-hle]at GN h5;rw[<-hq]at Fi Fa;rw[<-hb]at Fa;rw[<-FQ]at h4;rw[<-J1]at h5;obtain⟨v1,FF⟩:=nmq ((((l:Int)==0)&&okX args));rw[<-FF]at Jd
 have Lf:R=(b&&v1&&((lc:Int)==1)&&u&&(lb==0)&&(le==0)&&x4&&x5):=by
  rw[hR,FF,<-hl,<-Fw,<-Jz,<-hle,<-hu,<-FQ,<-J1,<-hb]
  ac_rfl
 rw[<-hl,<-Fw,<-Jz,<-hle];have HR:=hdq Lf;have F4:=hdq Fi;have MY:=hdq Jd;have H4:=hdq h4;have H5:=hdq h5;have HQ:=hdq Fa;have Lt:=hdq Fw;have HU:=hdq hu;have HS:=hdq hS;have eb:(nm.toList== [])=b:=hb.symm;have eb2:(nm.toList != [])= !b:=by rw[hb];rfl
 have Hi:Fr NoT w (w.alloc (.cells #[.int .u8 5,.string nm,.slice A2 l q2,.slice A3 lc q3,.slice A4 lb q4,.slice A5 le q5,.int .i64 at_] 39)):=(Fr.refl _ _).alloc _;have Hn:=hdq Hi;have Hu:=hdq (Bk.new w 39 #[.int .u8 5,.string nm,.slice A2 l q2,.slice A3 lc q3,.slice A4 lb q4,.slice A5 le q5,.int .i64 at_]);clear Hi hR Lf Jd h4 h5 Fa Fw Jz hle hl hu hS hb Fi hx hy Gh Gn hs hq FQ J1 FF;go_enter Tryz.func168,Tryz.ntmps168;go_wp2_with fail;refine(F4 _).mono ?_;rintro _ w2 ⟨rfl,F0⟩;have hb:=Fr.below (T:=NoT) F0;have He:=Hu.fr0 hb;have Hy:=hdq (Hn.trans hb);have c0:=He.cell 0;have c2:=He.cell 2;have c1:=He.cell 1;have c3:=He.cell 3;have c4:=He.cell 4;have c5:=He.cell 5;have Hv:=He.lt;simp only[getsL]at c0 c1 c2 c3 c4 c5;have Jy:=hdq He;clear hb He;clear F0;have Ti:q=true\/(q=false/\b=false)\/(q=false/\b=true):=by cases q<;>cases b<;>simp
 rcases Ti with rfl|⟨rfl,rfl⟩|⟨rfl,rfl⟩
 ·have Rl:=HQ rfl;subst Rl;have HF:=hdq (show R=false from by rw[HR.out];simp);clear HR;go_wp2_with fail;go_ret;exact⟨by rw[HF.out];rfl,Hy.out⟩
 ·have HF:=hdq (show R=false from by rw[HR.out];simp);clear HR;go_wp2_with fail;go_ret;exact⟨by rw[HF.out];rfl,Hy.out⟩
 go_wp2_with fail;refine(MY _ Hy.out).mono ?_;rintro _ w3 ⟨rfl,hb⟩;clear c0 c1 c2 c3 c4 c5 Hv;have Hw:=Jy.fr0 hb;have Gc:=hdq (Hy.trans hb);have c0:=Hw.cell 0;have c2:=Hw.cell 2;have c1:=Hw.cell 1;have c3:=Hw.cell 3;have c4:=Hw.cell 4;have c5:=Hw.cell 5;have Hv:=Hw.lt;simp only[getsL]at c0 c1 c2 c3 c4 c5;have Kd:=hdq Hw;clear hb Hw;cases v1
 ·have HF:=hdq (show R=false from by rw[HR.out];simp);clear HR;go_wp2_with fail;go_ret;exact⟨by rw[HF.out];rfl,Gc.out⟩
 by_cases JH:lc=1
 rotate_left
 ·have e1:((lc:Int)==1)=false:=by simp;omega
  have HF:=hdq (show R=false from by rw[HR.out,show((lc:Int)==1)=false from by simp;omega];simp);clear HR;go_wp2_with fail;go_ret;exact⟨by rw[HF.out];rfl,Gc.out⟩
 subst JH;obtain⟨a0,a1,a2,a3,ar,hd⟩:=Cds.drop_cons (show 0 < cond.len from by rw[<-Lt.out];omega);obtain⟨b',o',rfl,Hd⟩:=HY.2.2 (by rw[<-Lt.out];omega);have Hb:=(CdR.keep (Gc.same λb hb=>⟨HS b hb,id⟩) Hd).drop 0;rw[hd]at Hb;obtain⟨⟨Hf,_,r0,r1,d0,d3⟩,⟨A2',p2,d1,s2⟩,⟨A3',p3,d2,s3⟩,_⟩:=Hb;have Gf:b' < w3.heap.size:=ltq (HS _ Hf) Gc.size;have Ge:=Rp a0 a1 a2 a3 ar hd w3 A2' A3' p2 p3 Gc.out s2 s3;have JA:u=okD a0 a1 a2 a3:=by
  rw[HU.out];have h1:=Lt.out;cases cond with
  |nil=>simp[Cds.drop]at hd
  |cons z0 z1 z2 z3 zr=>
   simp only[Cds.drop]at hd;injection hd with e0 e1 e2 e3 e4;subst e0 e1 e2 e3 e4;cases zr with
   |nil=>exact(show okC (.cons z0 z1 z2 z3 .nil)=(okD z0 z1 z2 z3&&true)from rfl).trans (Bool.and_true _)
   |cons _ _ _ _ _=>simp only[Cds.len]at h1;omega
 rw[<-JA]at Ge;have H1:=hdq Ge;have z0:o'+0*4=o':=by omega
 rw[z0]at d0 d1 d2 d3;clear Ge JA Hd Hf s2 s3 r0 r1 z0 Rp;go_wp2_with fail;refine H1.mono ?_;rintro _ w4 ⟨rfl,hb⟩;clear c0 c1 c2 c3 c4 c5 Hv d0 d1 d2 d3 Gf;have GX:=Kd.fr0 hb;have GL:=hdq (Gc.trans hb);have c0:=GX.cell 0;have c2:=GX.cell 2;have c1:=GX.cell 1;have c3:=GX.cell 3;have c4:=GX.cell 4;have c5:=GX.cell 5;have Hv:=GX.lt;simp only[getsL]at c0 c1 c2 c3 c4 c5;have Ks:=hdq GX;clear hb GX;cases u
 ·have HF:=hdq (show R=false from by rw[HR.out];simp);clear HR;go_wp2_with fail;go_ret;exact⟨by rw[HF.out];rfl,GL.out⟩
 by_cases KM:lb=0
 rotate_left
 ·have e1:decide ((0:Int) < (lb:Int))=true:=by simp;omega
  have HF:=hdq (show R=false from by rw[HR.out,show(lb==0)=false from by simpa using KM];simp);clear HR;go_wp2_with fail;go_ret;exact⟨by rw[HF.out];rfl,GL.out⟩
 subst KM;by_cases Kp:le=0
 rotate_left
 ·have e2:decide ((0:Int) < (le:Int))=true:=by simp;omega
  have HF:=hdq (show R=false from by rw[HR.out,show(le==0)=false from by simpa using Kp];simp);clear HR;go_wp2_with fail;go_ret;exact⟨by rw[HF.out];rfl,GL.out⟩
 subst Kp;go_wp2_with fail;refine(H4 _ GL.out).mono ?_;rintro _ w8 ⟨rfl,hb⟩;clear c0 c1 c2 c3 c4 c5 Hv;have Hk:=Ks.fr0 hb;have GD:=hdq (GL.trans hb);have c0:=Hk.cell 0;have c2:=Hk.cell 2;have c1:=Hk.cell 1;have c3:=Hk.cell 3;have c4:=Hk.cell 4;have c5:=Hk.cell 5;have Hv:=Hk.lt;simp only[getsL]at c0 c1 c2 c3 c4 c5;have SZ:=hdq Hk;clear hb Hk;cases x4
 ·have HF:=hdq (show R=false from by rw[HR.out];simp);clear HR;go_wp2_with fail;go_ret;exact⟨by rw[HF.out];rfl,GD.out⟩
 go_wp2_with fail;refine(H5 _ GD.out).mono ?_;rintro _ w9 ⟨rfl,hb⟩;have FT:=hdq (GD.trans hb);clear hb;have HF:=hdq (show R=x5 from by rw[HR.out];simp);clear HR;go_wp2_with fail;go_ret;exact⟨by rw[HF.out];rfl,FT.out⟩
theorem znc (nm:ByteArray)(args:Exs)(cond:Cds)(body els:Sts)(at_:Int)(w:World)(S:Nat->Prop)(Z:Prop)(A2 A3 A4 A5:Option Addr)(q2 q3 q4 q5:Nat)(hs:nm.size<=9223372036854775807)(hS:∀b,S b->b < w.heap.size)(Gh:szX args)(Gn:szC cond)
  (hx:SlR (λb o=>ExR w S Z args b o) args.len 64 A2 q2) (hy:SlR (λb o=>CdR w S Z cond b o) cond.len 64 A3 q3) (Gy:body.len<=9223372036854775807) (GN:els.len<=9223372036854775807)
  (h4:∀W,Fr NoT w W->Calls Tryz.prog 105 #[.slice A4 body.len q4] W (zae (okS body) W)) (h5:∀W,Fr NoT w W->Calls Tryz.prog 105 #[.slice A5 els.len q5] W (zae (okS els) W)):
  Calls Tryz.prog 168 #[.agg #[.int .u8 6,.string nm,.slice A2 args.len q2,.slice A3 cond.len q3,.slice A4 body.len q4,.slice A5 els.len q5,.int .i64 at_]] w (zae (okT 6 nm args cond body els at_) w):=by
 have Gl:args.len<=9223372036854775807:=leq9 hx.1 hx.2.1.1;have Gz:cond.len<=9223372036854775807:=leq9 hy.1 hy.2.1.1;obtain⟨R,hR⟩:=nmq (okT 6 nm args cond body els at_);rw[<-hR];have Fa:zak nm.data.toList=true->(nm.toList== [])=false:=zcf;have hR:R=(((nm.toList== []))&&((args.len:Int)==0)&&((cond.len:Int)==1)&&(body.len==0)&&(els.len==0)&&okX args&&okC cond&&okS body&&okS els):=hR.trans (by rfl);have Jd:=λ(W:World)(hf:Fr NoT w W)=>zaP args W S Z A2 q2 0 (λb h=>ltq (hS b h) hf.size) Gh (hx.imp λ_ _ hx=>ExR.keep (hf.same λb hb=>⟨hS b hb,id⟩) hx);have Qp:=λ(a0:Int)(a1:Exs)(a2:Cds)(a3:Int)(ar:Cds)(hd:Cds.drop 0 cond= .cons a0 a1 a2 a3 ar)(W:World)(A2 A3:Option Addr)(q2 q3:Nat)(hf:Fr NoT w W)=>zct a0 a1 a2 a3 W S Z A2 A3 q2 q3 (λb h=>ltq (hS b h) hf.size) (zbe 0 Gn hd).1 (zbe 0 Gn hd).2;have jw:=λ(a0:Int)(a1:Exs)(a2:Cds)(a3:Int)(ar:Cds)(hd:Cds.drop 0 cond= .cons a0 a1 a2 a3 ar)=>hy.2.2 (by have:=congrArg Cds.len hd;simp only[Cds.drop,Cds.len]at this;omega);have Rp:=hdq Qp;have HY:=hdq hy;obtain⟨l,hl⟩:=nmq args.len;obtain⟨lc,Fw⟩:=nmq cond.len;obtain⟨lb,Jz⟩:=nmq body.len;obtain⟨le,hle⟩:=nmq els.len;obtain⟨q,hq⟩:=nmq (zak nm.data.toList);obtain⟨b,hb⟩:=nmq ((nm.toList== []));obtain⟨u,hu⟩:=nmq (okC cond);obtain⟨x4,FQ⟩:=nmq (okS body);obtain⟨x5,J1⟩:=nmq (okS els);have Fi:=λ(W:World)=>zaE nm hs W;rw[<-hl]at Gl Jd;rw[<-Fw]at Gz;rw[<-Jz]at Gy h4;rw[<-hle]at GN h5;rw[<-hq]at Fi Fa;rw[<-hb]at Fa;rw[<-FQ]at h4;rw[<-J1]at h5;obtain⟨v1,FF⟩:=nmq ((((l:Int)==0)&&okX args));rw[<-FF]at Jd
 have Lf:R=(b&&v1&&((lc:Int)==1)&&u&&(lb==0)&&(le==0)&&x4&&x5):=by
  rw[hR,FF,<-hl,<-Fw,<-Jz,<-hle,<-hu,<-FQ,<-J1,<-hb]
  ac_rfl
 rw[<-hl,<-Fw,<-Jz,<-hle];have HR:=hdq Lf;have F4:=hdq Fi;have MY:=hdq Jd;have H4:=hdq h4;have H5:=hdq h5;have HQ:=hdq Fa;have Lt:=hdq Fw;have HU:=hdq hu;have HS:=hdq hS;have eb:(nm.toList== [])=b:=hb.symm;have eb2:(nm.toList != [])= !b:=by rw[hb];rfl
 have Hi:Fr NoT w (w.alloc (.cells #[.int .u8 6,.string nm,.slice A2 l q2,.slice A3 lc q3,.slice A4 lb q4,.slice A5 le q5,.int .i64 at_] 39)):=(Fr.refl _ _).alloc _;have Hn:=hdq Hi;have Hu:=hdq (Bk.new w 39 #[.int .u8 6,.string nm,.slice A2 l q2,.slice A3 lc q3,.slice A4 lb q4,.slice A5 le q5,.int .i64 at_]);clear Hi hR Lf Jd h4 h5 Fa Fw Jz hle hl hu hS hb Fi hx hy Gh Gn hs hq FQ J1 FF;go_enter Tryz.func168,Tryz.ntmps168;go_wp2_with fail;refine(F4 _).mono ?_;rintro _ w2 ⟨rfl,F0⟩;have hb:=Fr.below (T:=NoT) F0;have He:=Hu.fr0 hb;have Hy:=hdq (Hn.trans hb);have c0:=He.cell 0;have c2:=He.cell 2;have c1:=He.cell 1;have c3:=He.cell 3;have c4:=He.cell 4;have c5:=He.cell 5;have Hv:=He.lt;simp only[getsL]at c0 c1 c2 c3 c4 c5;have Jy:=hdq He;clear hb He;clear F0;have Ti:q=true\/(q=false/\b=false)\/(q=false/\b=true):=by cases q<;>cases b<;>simp
 rcases Ti with rfl|⟨rfl,rfl⟩|⟨rfl,rfl⟩
 ·have Rl:=HQ rfl;subst Rl;have HF:=hdq (show R=false from by rw[HR.out];simp);clear HR;go_wp2_with fail;go_ret;exact⟨by rw[HF.out];rfl,Hy.out⟩
 ·have HF:=hdq (show R=false from by rw[HR.out];simp);clear HR;go_wp2_with fail;go_ret;exact⟨by rw[HF.out];rfl,Hy.out⟩
 go_wp2_with fail;refine(MY _ Hy.out).mono ?_;rintro _ w3 ⟨rfl,hb⟩;clear c0 c1 c2 c3 c4 c5 Hv;have Hw:=Jy.fr0 hb;have Gc:=hdq (Hy.trans hb);have c0:=Hw.cell 0;have c2:=Hw.cell 2;have c1:=Hw.cell 1;have c3:=Hw.cell 3;have c4:=Hw.cell 4;have c5:=Hw.cell 5;have Hv:=Hw.lt;simp only[getsL]at c0 c1 c2 c3 c4 c5;have Kd:=hdq Hw;clear hb Hw;cases v1
 ·have HF:=hdq (show R=false from by rw[HR.out];simp);clear HR;go_wp2_with fail;go_ret;exact⟨by rw[HF.out];rfl,Gc.out⟩
 by_cases JH:lc=1
 rotate_left
 ·have e1:((lc:Int)==1)=false:=by simp;omega
  have HF:=hdq (show R=false from by rw[HR.out,show((lc:Int)==1)=false from by simp;omega];simp);clear HR;go_wp2_with fail;go_ret;exact⟨by rw[HF.out];rfl,Gc.out⟩
 subst JH;obtain⟨a0,a1,a2,a3,ar,hd⟩:=Cds.drop_cons (show 0 < cond.len from by rw[<-Lt.out];omega);obtain⟨b',o',rfl,Hd⟩:=HY.2.2 (by rw[<-Lt.out];omega);have Hb:=(CdR.keep (Gc.same λb hb=>⟨HS b hb,id⟩) Hd).drop 0;rw[hd]at Hb;obtain⟨⟨Hf,_,r0,r1,d0,d3⟩,⟨A2',p2,d1,s2⟩,⟨A3',p3,d2,s3⟩,_⟩:=Hb;have Gf:b' < w3.heap.size:=ltq (HS _ Hf) Gc.size;have Ge:=Rp a0 a1 a2 a3 ar hd w3 A2' A3' p2 p3 Gc.out s2 s3;have JA:u=okD a0 a1 a2 a3:=by
  rw[HU.out];have h1:=Lt.out;cases cond with
  |nil=>simp[Cds.drop]at hd
  |cons z0 z1 z2 z3 zr=>
   simp only[Cds.drop]at hd;injection hd with e0 e1 e2 e3 e4;subst e0 e1 e2 e3 e4;cases zr with
   |nil=>exact(show okC (.cons z0 z1 z2 z3 .nil)=(okD z0 z1 z2 z3&&true)from rfl).trans (Bool.and_true _)
   |cons _ _ _ _ _=>simp only[Cds.len]at h1;omega
 rw[<-JA]at Ge;have H1:=hdq Ge;have z0:o'+0*4=o':=by omega
 rw[z0]at d0 d1 d2 d3;clear Ge JA Hd Hf s2 s3 r0 r1 z0 Rp;go_wp2_with fail;refine H1.mono ?_;rintro _ w4 ⟨rfl,hb⟩;clear c0 c1 c2 c3 c4 c5 Hv d0 d1 d2 d3 Gf;have GX:=Kd.fr0 hb;have GL:=hdq (Gc.trans hb);have c0:=GX.cell 0;have c2:=GX.cell 2;have c1:=GX.cell 1;have c3:=GX.cell 3;have c4:=GX.cell 4;have c5:=GX.cell 5;have Hv:=GX.lt;simp only[getsL]at c0 c1 c2 c3 c4 c5;have Ks:=hdq GX;clear hb GX;cases u
 ·have HF:=hdq (show R=false from by rw[HR.out];simp);clear HR;go_wp2_with fail;go_ret;exact⟨by rw[HF.out];rfl,GL.out⟩
 by_cases KM:lb=0
 rotate_left
 ·have e1:decide ((0:Int) < (lb:Int))=true:=by simp;omega
  have HF:=hdq (show R=false from by rw[HR.out,show(lb==0)=false from by simpa using KM];simp);clear HR;go_wp2_with fail;go_ret;exact⟨by rw[HF.out];rfl,GL.out⟩
 subst KM;by_cases Kp:le=0
 rotate_left
 ·have e2:decide ((0:Int) < (le:Int))=true:=by simp;omega
  have HF:=hdq (show R=false from by rw[HR.out,show(le==0)=false from by simpa using Kp];simp);clear HR;go_wp2_with fail;go_ret;exact⟨by rw[HF.out];rfl,GL.out⟩
 subst Kp;go_wp2_with fail;refine(H4 _ GL.out).mono ?_;rintro _ w8 ⟨rfl,hb⟩;clear c0 c1 c2 c3 c4 c5 Hv;have Hk:=Ks.fr0 hb;have GD:=hdq (GL.trans hb);have c0:=Hk.cell 0;have c2:=Hk.cell 2;have c1:=Hk.cell 1;have c3:=Hk.cell 3;have c4:=Hk.cell 4;have c5:=Hk.cell 5;have Hv:=Hk.lt;simp only[getsL]at c0 c1 c2 c3 c4 c5;have SZ:=hdq Hk;clear hb Hk;cases x4
 ·have HF:=hdq (show R=false from by rw[HR.out];simp);clear HR;go_wp2_with fail;go_ret;exact⟨by rw[HF.out];rfl,GD.out⟩
 go_wp2_with fail;refine(H5 _ GD.out).mono ?_;rintro _ w9 ⟨rfl,hb⟩;have FT:=hdq (GD.trans hb);clear hb;have HF:=hdq (show R=x5 from by rw[HR.out];simp);clear HR;go_wp2_with fail;go_ret;exact⟨by rw[HF.out];rfl,FT.out⟩
theorem znd (nm:ByteArray)(args:Exs)(cond:Cds)(body els:Sts)(at_:Int)(w:World)(S:Nat->Prop)(Z:Prop)(A2 A3 A4 A5:Option Addr)(q2 q3 q4 q5:Nat)(hs:nm.size<=9223372036854775807)(hS:∀b,S b->b < w.heap.size)(Gh:szX args)(Gn:szC cond)
  (hx:SlR (λb o=>ExR w S Z args b o) args.len 64 A2 q2) (hy:SlR (λb o=>CdR w S Z cond b o) cond.len 64 A3 q3) (Gy:body.len<=9223372036854775807) (GN:els.len<=9223372036854775807)
  (h4:∀W,Fr NoT w W->Calls Tryz.prog 105 #[.slice A4 body.len q4] W (zae (okS body) W)) (h5:∀W,Fr NoT w W->Calls Tryz.prog 105 #[.slice A5 els.len q5] W (zae (okS els) W)):
  Calls Tryz.prog 168 #[.agg #[.int .u8 7,.string nm,.slice A2 args.len q2,.slice A3 cond.len q3,.slice A4 body.len q4,.slice A5 els.len q5,.int .i64 at_]] w (zae (okT 7 nm args cond body els at_) w):=by
 have Gl:args.len<=9223372036854775807:=leq9 hx.1 hx.2.1.1;have Gz:cond.len<=9223372036854775807:=leq9 hy.1 hy.2.1.1;obtain⟨R,hR⟩:=nmq (okT 7 nm args cond body els at_);rw[<-hR];have Fa:zak nm.data.toList=true->(nm.toList== [])=false:=zcf;have hR:R=(((nm.toList== []))&&((args.len:Int)==0)&&((cond.len:Int)==1)&&true&&true&&okX args&&okC cond&&okS body&&okS els):=hR.trans (by rfl);have Jd:=λ(W:World)(hf:Fr NoT w W)=>zaP args W S Z A2 q2 0 (λb h=>ltq (hS b h) hf.size) Gh (hx.imp λ_ _ hx=>ExR.keep (hf.same λb hb=>⟨hS b hb,id⟩) hx);have Qp:=λ(a0:Int)(a1:Exs)(a2:Cds)(a3:Int)(ar:Cds)(hd:Cds.drop 0 cond= .cons a0 a1 a2 a3 ar)(W:World)(A2 A3:Option Addr)(q2 q3:Nat)(hf:Fr NoT w W)=>zct a0 a1 a2 a3 W S Z A2 A3 q2 q3 (λb h=>ltq (hS b h) hf.size) (zbe 0 Gn hd).1 (zbe 0 Gn hd).2;have jw:=λ(a0:Int)(a1:Exs)(a2:Cds)(a3:Int)(ar:Cds)(hd:Cds.drop 0 cond= .cons a0 a1 a2 a3 ar)=>hy.2.2 (by have:=congrArg Cds.len hd;simp only[Cds.drop,Cds.len]at this;omega);have Rp:=hdq Qp;have HY:=hdq hy;obtain⟨l,hl⟩:=nmq args.len;obtain⟨lc,Fw⟩:=nmq cond.len;obtain⟨lb,Jz⟩:=nmq body.len;obtain⟨le,hle⟩:=nmq els.len;obtain⟨q,hq⟩:=nmq (zak nm.data.toList);obtain⟨b,hb⟩:=nmq ((nm.toList== []));obtain⟨u,hu⟩:=nmq (okC cond);obtain⟨x4,FQ⟩:=nmq (okS body);obtain⟨x5,J1⟩:=nmq (okS els);have Fi:=λ(W:World)=>zaE nm hs W;rw[<-hl]at Gl Jd;rw[<-Fw]at Gz;rw[<-Jz]at Gy h4;rw[<-hle]at GN h5;rw[<-hq]at Fi Fa;rw[<-hb]at Fa;rw[<-FQ]at h4;rw[<-J1]at h5;obtain⟨v1,FF⟩:=nmq ((((l:Int)==0)&&okX args));rw[<-FF]at Jd
 have Lf:R=(b&&v1&&((lc:Int)==1)&&u&&true&&true&&x4&&x5):=by
  rw[hR,FF,<-hl,<-Fw,<-hu,<-FQ,<-J1,<-hb]
  ac_rfl
 rw[<-hl,<-Fw,<-Jz,<-hle];have HR:=hdq Lf;have F4:=hdq Fi;have MY:=hdq Jd;have H4:=hdq h4;have H5:=hdq h5;have HQ:=hdq Fa;have Lt:=hdq Fw;have HU:=hdq hu;have HS:=hdq hS;have eb:(nm.toList== [])=b:=hb.symm;have eb2:(nm.toList != [])= !b:=by rw[hb];rfl
 have Hi:Fr NoT w (w.alloc (.cells #[.int .u8 7,.string nm,.slice A2 l q2,.slice A3 lc q3,.slice A4 lb q4,.slice A5 le q5,.int .i64 at_] 39)):=(Fr.refl _ _).alloc _;have Hn:=hdq Hi;have Hu:=hdq (Bk.new w 39 #[.int .u8 7,.string nm,.slice A2 l q2,.slice A3 lc q3,.slice A4 lb q4,.slice A5 le q5,.int .i64 at_]);clear Hi hR Lf Jd h4 h5 Fa Fw Jz hle hl hu hS hb Fi hx hy Gh Gn hs hq FQ J1 FF;go_enter Tryz.func168,Tryz.ntmps168;go_wp2_with fail;refine(F4 _).mono ?_;rintro _ w2 ⟨rfl,F0⟩;have hb:=Fr.below (T:=NoT) F0;have He:=Hu.fr0 hb;have Hy:=hdq (Hn.trans hb);have c0:=He.cell 0;have c2:=He.cell 2;have c1:=He.cell 1;have c3:=He.cell 3;have c4:=He.cell 4;have c5:=He.cell 5;have Hv:=He.lt;simp only[getsL]at c0 c1 c2 c3 c4 c5;have Jy:=hdq He;clear hb He;clear F0;have Ti:q=true\/(q=false/\b=false)\/(q=false/\b=true):=by cases q<;>cases b<;>simp
 rcases Ti with rfl|⟨rfl,rfl⟩|⟨rfl,rfl⟩
 ·have Rl:=HQ rfl;subst Rl;have HF:=hdq (show R=false from by rw[HR.out];simp);clear HR;go_wp2_with fail;go_ret;exact⟨by rw[HF.out];rfl,Hy.out⟩
 ·have HF:=hdq (show R=false from by rw[HR.out];simp);clear HR;go_wp2_with fail;go_ret;exact⟨by rw[HF.out];rfl,Hy.out⟩
 go_wp2_with fail;refine(MY _ Hy.out).mono ?_;rintro _ w3 ⟨rfl,hb⟩;clear c0 c1 c2 c3 c4 c5 Hv;have Hw:=Jy.fr0 hb;have Gc:=hdq (Hy.trans hb);have c0:=Hw.cell 0;have c2:=Hw.cell 2;have c1:=Hw.cell 1;have c3:=Hw.cell 3;have c4:=Hw.cell 4;have c5:=Hw.cell 5;have Hv:=Hw.lt;simp only[getsL]at c0 c1 c2 c3 c4 c5;have Kd:=hdq Hw;clear hb Hw;cases v1
 ·have HF:=hdq (show R=false from by rw[HR.out];simp);clear HR;go_wp2_with fail;go_ret;exact⟨by rw[HF.out];rfl,Gc.out⟩
 by_cases JH:lc=1
 rotate_left
 ·have e1:((lc:Int)==1)=false:=by simp;omega
  have HF:=hdq (show R=false from by rw[HR.out,show((lc:Int)==1)=false from by simp;omega];simp);clear HR;go_wp2_with fail;go_ret;exact⟨by rw[HF.out];rfl,Gc.out⟩
 subst JH;obtain⟨a0,a1,a2,a3,ar,hd⟩:=Cds.drop_cons (show 0 < cond.len from by rw[<-Lt.out];omega);obtain⟨b',o',rfl,Hd⟩:=HY.2.2 (by rw[<-Lt.out];omega);have Hb:=(CdR.keep (Gc.same λb hb=>⟨HS b hb,id⟩) Hd).drop 0;rw[hd]at Hb;obtain⟨⟨Hf,_,r0,r1,d0,d3⟩,⟨A2',p2,d1,s2⟩,⟨A3',p3,d2,s3⟩,_⟩:=Hb;have Gf:b' < w3.heap.size:=ltq (HS _ Hf) Gc.size;have Ge:=Rp a0 a1 a2 a3 ar hd w3 A2' A3' p2 p3 Gc.out s2 s3;have JA:u=okD a0 a1 a2 a3:=by
  rw[HU.out];have h1:=Lt.out;cases cond with
  |nil=>simp[Cds.drop]at hd
  |cons z0 z1 z2 z3 zr=>
   simp only[Cds.drop]at hd;injection hd with e0 e1 e2 e3 e4;subst e0 e1 e2 e3 e4;cases zr with
   |nil=>exact(show okC (.cons z0 z1 z2 z3 .nil)=(okD z0 z1 z2 z3&&true)from rfl).trans (Bool.and_true _)
   |cons _ _ _ _ _=>simp only[Cds.len]at h1;omega
 rw[<-JA]at Ge;have H1:=hdq Ge;have z0:o'+0*4=o':=by omega
 rw[z0]at d0 d1 d2 d3;clear Ge JA Hd Hf s2 s3 r0 r1 z0 Rp;go_wp2_with fail;refine H1.mono ?_;rintro _ w4 ⟨rfl,hb⟩;clear c0 c1 c2 c3 c4 c5 Hv d0 d1 d2 d3 Gf;have GX:=Kd.fr0 hb;have GL:=hdq (Gc.trans hb);have c0:=GX.cell 0;have c2:=GX.cell 2;have c1:=GX.cell 1;have c3:=GX.cell 3;have c4:=GX.cell 4;have c5:=GX.cell 5;have Hv:=GX.lt;simp only[getsL]at c0 c1 c2 c3 c4 c5;have Ks:=hdq GX;clear hb GX;cases u
 ·have HF:=hdq (show R=false from by rw[HR.out];simp);clear HR;go_wp2_with fail;go_ret;exact⟨by rw[HF.out];rfl,GL.out⟩
 have KM:lb=0\/0 < lb:=by omega
 rcases KM with rfl|KM
 ·have Kp:le=0\/0 < le:=by omega
  rcases Kp with rfl|Kp;rotate_left;have e2:decide ((0:Int) < (le:Int))=true:=by simp;omega
  all_goals
   go_wp2_with fail;refine(H4 _ GL.out).mono ?_;rintro _ w8 ⟨rfl,hb⟩;clear c0 c1 c2 c3 c4 c5 Hv;have Hk:=Ks.fr0 hb;have GD:=hdq (GL.trans hb);have c0:=Hk.cell 0;have c2:=Hk.cell 2;have c1:=Hk.cell 1;have c3:=Hk.cell 3;have c4:=Hk.cell 4;have c5:=Hk.cell 5;have Hv:=Hk.lt;simp only[getsL]at c0 c1 c2 c3 c4 c5;have SZ:=hdq Hk;clear hb Hk;cases x4
   ·have HF:=hdq (show R=false from by rw[HR.out];simp);clear HR;go_wp2_with fail;go_ret;exact⟨by rw[HF.out];rfl,GD.out⟩
   go_wp2_with fail;refine(H5 _ GD.out).mono ?_;rintro _ w9 ⟨rfl,hb⟩;have FT:=hdq (GD.trans hb);clear hb;have HF:=hdq (show R=x5 from by rw[HR.out];simp);clear HR;go_wp2_with fail;go_ret;exact⟨by rw[HF.out];rfl,FT.out⟩
 ·have e1:decide ((0:Int) < (lb:Int))=true:=by simp;omega
  have Kp:le=0\/0 < le:=by omega
  rcases Kp with rfl|Kp;rotate_left;have e2:decide ((0:Int) < (le:Int))=true:=by simp;omega
  all_goals
   go_wp2_with fail;refine(H4 _ GL.out).mono ?_;rintro _ w8 ⟨rfl,hb⟩;clear c0 c1 c2 c3 c4 c5 Hv;have Hk:=Ks.fr0 hb;have GD:=hdq (GL.trans hb);have c0:=Hk.cell 0;have c2:=Hk.cell 2;have c1:=Hk.cell 1;have c3:=Hk.cell 3;have c4:=Hk.cell 4;have c5:=Hk.cell 5;have Hv:=Hk.lt;simp only[getsL]at c0 c1 c2 c3 c4 c5;have SZ:=hdq Hk;clear hb Hk;cases x4
   ·have HF:=hdq (show R=false from by rw[HR.out];simp);clear HR;go_wp2_with fail;go_ret;exact⟨by rw[HF.out];rfl,GD.out⟩
   go_wp2_with fail;refine(H5 _ GD.out).mono ?_;rintro _ w9 ⟨rfl,hb⟩;have FT:=hdq (GD.trans hb);clear hb;have HF:=hdq (show R=x5 from by rw[HR.out];simp);clear HR;go_wp2_with fail;go_ret;exact⟨by rw[HF.out];rfl,FT.out⟩
theorem zne (nm:ByteArray)(args:Exs)(cond:Cds)(body els:Sts)(at_:Int)(w:World)(S:Nat->Prop)(Z:Prop)(A2 A3 A4 A5:Option Addr)(q2 q3 q4 q5:Nat)(hs:nm.size<=9223372036854775807)(hS:∀b,S b->b < w.heap.size)(Gh:szX args)(Gn:szC cond)
  (hx:SlR (λb o=>ExR w S Z args b o) args.len 64 A2 q2) (hy:SlR (λb o=>CdR w S Z cond b o) cond.len 64 A3 q3) (Gy:body.len<=9223372036854775807) (GN:els.len<=9223372036854775807)
  (h4:∀W,Fr NoT w W->Calls Tryz.prog 105 #[.slice A4 body.len q4] W (zae (okS body) W)) (h5:∀W,Fr NoT w W->Calls Tryz.prog 105 #[.slice A5 els.len q5] W (zae (okS els) W)):
  Calls Tryz.prog 168 #[.agg #[.int .u8 8,.string nm,.slice A2 args.len q2,.slice A3 cond.len q3,.slice A4 body.len q4,.slice A5 els.len q5,.int .i64 at_]] w (zae (okT 8 nm args cond body els at_) w):=by
 have Gl:args.len<=9223372036854775807:=leq9 hx.1 hx.2.1.1;have Gz:cond.len<=9223372036854775807:=leq9 hy.1 hy.2.1.1;obtain⟨R,hR⟩:=nmq (okT 8 nm args cond body els at_);rw[<-hR];have Fa:zak nm.data.toList=true->(nm.toList== [])=false:=zcf;have hR:R=(((nm.toList== []))&&((args.len:Int)==0)&&((cond.len:Int)==1)&&true&&(els.len==0)&&okX args&&okC cond&&okS body&&okS els):=hR.trans (by rfl);have Jd:=λ(W:World)(hf:Fr NoT w W)=>zaP args W S Z A2 q2 0 (λb h=>ltq (hS b h) hf.size) Gh (hx.imp λ_ _ hx=>ExR.keep (hf.same λb hb=>⟨hS b hb,id⟩) hx);have Qp:=λ(a0:Int)(a1:Exs)(a2:Cds)(a3:Int)(ar:Cds)(hd:Cds.drop 0 cond= .cons a0 a1 a2 a3 ar)(W:World)(A2 A3:Option Addr)(q2 q3:Nat)(hf:Fr NoT w W)=>zct a0 a1 a2 a3 W S Z A2 A3 q2 q3 (λb h=>ltq (hS b h) hf.size) (zbe 0 Gn hd).1 (zbe 0 Gn hd).2;have jw:=λ(a0:Int)(a1:Exs)(a2:Cds)(a3:Int)(ar:Cds)(hd:Cds.drop 0 cond= .cons a0 a1 a2 a3 ar)=>hy.2.2 (by have:=congrArg Cds.len hd;simp only[Cds.drop,Cds.len]at this;omega);have Rp:=hdq Qp;have HY:=hdq hy;obtain⟨l,hl⟩:=nmq args.len;obtain⟨lc,Fw⟩:=nmq cond.len;obtain⟨lb,Jz⟩:=nmq body.len;obtain⟨le,hle⟩:=nmq els.len;obtain⟨q,hq⟩:=nmq (zak nm.data.toList);obtain⟨b,hb⟩:=nmq ((nm.toList== []));obtain⟨u,hu⟩:=nmq (okC cond);obtain⟨x4,FQ⟩:=nmq (okS body);obtain⟨x5,J1⟩:=nmq (okS els);have Fi:=λ(W:World)=>zaE nm hs W;rw[<-hl]at Gl Jd;rw[<-Fw]at Gz;rw[<-Jz]at Gy h4;rw[<-hle]at GN h5;rw[<-hq]at Fi Fa;rw[<-hb]at Fa;rw[<-FQ]at h4;rw[<-J1]at h5;obtain⟨v1,FF⟩:=nmq ((((l:Int)==0)&&okX args));rw[<-FF]at Jd
 have Lf:R=(b&&v1&&((lc:Int)==1)&&u&&true&&(le==0)&&x4&&x5):=by
  rw[hR,FF,<-hl,<-Fw,<-hle,<-hu,<-FQ,<-J1,<-hb]
  ac_rfl
 rw[<-hl,<-Fw,<-Jz,<-hle];have HR:=hdq Lf;have F4:=hdq Fi;have MY:=hdq Jd;have H4:=hdq h4;have H5:=hdq h5;have HQ:=hdq Fa;have Lt:=hdq Fw;have HU:=hdq hu;have HS:=hdq hS;have eb:(nm.toList== [])=b:=hb.symm;have eb2:(nm.toList != [])= !b:=by rw[hb];rfl
 have Hi:Fr NoT w (w.alloc (.cells #[.int .u8 8,.string nm,.slice A2 l q2,.slice A3 lc q3,.slice A4 lb q4,.slice A5 le q5,.int .i64 at_] 39)):=(Fr.refl _ _).alloc _;have Hn:=hdq Hi;have Hu:=hdq (Bk.new w 39 #[.int .u8 8,.string nm,.slice A2 l q2,.slice A3 lc q3,.slice A4 lb q4,.slice A5 le q5,.int .i64 at_]);clear Hi hR Lf Jd h4 h5 Fa Fw Jz hle hl hu hS hb Fi hx hy Gh Gn hs hq FQ J1 FF;go_enter Tryz.func168,Tryz.ntmps168;go_wp2_with fail;refine(F4 _).mono ?_;rintro _ w2 ⟨rfl,F0⟩;have hb:=Fr.below (T:=NoT) F0;have He:=Hu.fr0 hb;have Hy:=hdq (Hn.trans hb);have c0:=He.cell 0;have c2:=He.cell 2;have c1:=He.cell 1;have c3:=He.cell 3;have c4:=He.cell 4;have c5:=He.cell 5;have Hv:=He.lt;simp only[getsL]at c0 c1 c2 c3 c4 c5;have Jy:=hdq He;clear hb He;clear F0;have Ti:q=true\/(q=false/\b=false)\/(q=false/\b=true):=by cases q<;>cases b<;>simp
 rcases Ti with rfl|⟨rfl,rfl⟩|⟨rfl,rfl⟩
 ·have Rl:=HQ rfl;subst Rl;have HF:=hdq (show R=false from by rw[HR.out];simp);clear HR;go_wp2_with fail;go_ret;exact⟨by rw[HF.out];rfl,Hy.out⟩
 ·have HF:=hdq (show R=false from by rw[HR.out];simp);clear HR;go_wp2_with fail;go_ret;exact⟨by rw[HF.out];rfl,Hy.out⟩
 go_wp2_with fail;refine(MY _ Hy.out).mono ?_;rintro _ w3 ⟨rfl,hb⟩;clear c0 c1 c2 c3 c4 c5 Hv;have Hw:=Jy.fr0 hb;have Gc:=hdq (Hy.trans hb);have c0:=Hw.cell 0;have c2:=Hw.cell 2;have c1:=Hw.cell 1;have c3:=Hw.cell 3;have c4:=Hw.cell 4;have c5:=Hw.cell 5;have Hv:=Hw.lt;simp only[getsL]at c0 c1 c2 c3 c4 c5;have Kd:=hdq Hw;clear hb Hw;cases v1
 ·have HF:=hdq (show R=false from by rw[HR.out];simp);clear HR;go_wp2_with fail;go_ret;exact⟨by rw[HF.out];rfl,Gc.out⟩
 by_cases JH:lc=1
 rotate_left
 ·have e1:((lc:Int)==1)=false:=by simp;omega
  have HF:=hdq (show R=false from by rw[HR.out,show((lc:Int)==1)=false from by simp;omega];simp);clear HR;go_wp2_with fail;go_ret;exact⟨by rw[HF.out];rfl,Gc.out⟩
 subst JH;obtain⟨a0,a1,a2,a3,ar,hd⟩:=Cds.drop_cons (show 0 < cond.len from by rw[<-Lt.out];omega);obtain⟨b',o',rfl,Hd⟩:=HY.2.2 (by rw[<-Lt.out];omega);have Hb:=(CdR.keep (Gc.same λb hb=>⟨HS b hb,id⟩) Hd).drop 0;rw[hd]at Hb;obtain⟨⟨Hf,_,r0,r1,d0,d3⟩,⟨A2',p2,d1,s2⟩,⟨A3',p3,d2,s3⟩,_⟩:=Hb;have Gf:b' < w3.heap.size:=ltq (HS _ Hf) Gc.size;have Ge:=Rp a0 a1 a2 a3 ar hd w3 A2' A3' p2 p3 Gc.out s2 s3;have JA:u=okD a0 a1 a2 a3:=by
  rw[HU.out];have h1:=Lt.out;cases cond with
  |nil=>simp[Cds.drop]at hd
  |cons z0 z1 z2 z3 zr=>
   simp only[Cds.drop]at hd;injection hd with e0 e1 e2 e3 e4;subst e0 e1 e2 e3 e4;cases zr with
   |nil=>exact(show okC (.cons z0 z1 z2 z3 .nil)=(okD z0 z1 z2 z3&&true)from rfl).trans (Bool.and_true _)
   |cons _ _ _ _ _=>simp only[Cds.len]at h1;omega
 rw[<-JA]at Ge;have H1:=hdq Ge;have z0:o'+0*4=o':=by omega
 rw[z0]at d0 d1 d2 d3;clear Ge JA Hd Hf s2 s3 r0 r1 z0 Rp;go_wp2_with fail;refine H1.mono ?_;rintro _ w4 ⟨rfl,hb⟩;clear c0 c1 c2 c3 c4 c5 Hv d0 d1 d2 d3 Gf;have GX:=Kd.fr0 hb;have GL:=hdq (Gc.trans hb);have c0:=GX.cell 0;have c2:=GX.cell 2;have c1:=GX.cell 1;have c3:=GX.cell 3;have c4:=GX.cell 4;have c5:=GX.cell 5;have Hv:=GX.lt;simp only[getsL]at c0 c1 c2 c3 c4 c5;have Ks:=hdq GX;clear hb GX;cases u
 ·have HF:=hdq (show R=false from by rw[HR.out];simp);clear HR;go_wp2_with fail;go_ret;exact⟨by rw[HF.out];rfl,GL.out⟩
 have KM:lb=0\/0 < lb:=by omega
 rcases KM with rfl|KM
 ·by_cases Kp:le=0
  rotate_left
  ·have e2:decide ((0:Int) < (le:Int))=true:=by simp;omega
   have HF:=hdq (show R=false from by rw[HR.out,show(le==0)=false from by simpa using Kp];simp);clear HR;go_wp2_with fail;go_ret;exact⟨by rw[HF.out];rfl,GL.out⟩
  subst Kp;go_wp2_with fail;refine(H4 _ GL.out).mono ?_;rintro _ w8 ⟨rfl,hb⟩;clear c0 c1 c2 c3 c4 c5 Hv;have Hk:=Ks.fr0 hb;have GD:=hdq (GL.trans hb);have c0:=Hk.cell 0;have c2:=Hk.cell 2;have c1:=Hk.cell 1;have c3:=Hk.cell 3;have c4:=Hk.cell 4;have c5:=Hk.cell 5;have Hv:=Hk.lt;simp only[getsL]at c0 c1 c2 c3 c4 c5;have SZ:=hdq Hk;clear hb Hk;cases x4
  ·have HF:=hdq (show R=false from by rw[HR.out];simp);clear HR;go_wp2_with fail;go_ret;exact⟨by rw[HF.out];rfl,GD.out⟩
  go_wp2_with fail;refine(H5 _ GD.out).mono ?_;rintro _ w9 ⟨rfl,hb⟩;have FT:=hdq (GD.trans hb);clear hb;have HF:=hdq (show R=x5 from by rw[HR.out];simp);clear HR;go_wp2_with fail;go_ret;exact⟨by rw[HF.out];rfl,FT.out⟩
 ·have e1:decide ((0:Int) < (lb:Int))=true:=by simp;omega
  by_cases Kp:le=0
  rotate_left
  ·have e2:decide ((0:Int) < (le:Int))=true:=by simp;omega
   have HF:=hdq (show R=false from by rw[HR.out,show(le==0)=false from by simpa using Kp];simp);clear HR;go_wp2_with fail;go_ret;exact⟨by rw[HF.out];rfl,GL.out⟩
  subst Kp;go_wp2_with fail;refine(H4 _ GL.out).mono ?_;rintro _ w8 ⟨rfl,hb⟩;clear c0 c1 c2 c3 c4 c5 Hv;have Hk:=Ks.fr0 hb;have GD:=hdq (GL.trans hb);have c0:=Hk.cell 0;have c2:=Hk.cell 2;have c1:=Hk.cell 1;have c3:=Hk.cell 3;have c4:=Hk.cell 4;have c5:=Hk.cell 5;have Hv:=Hk.lt;simp only[getsL]at c0 c1 c2 c3 c4 c5;have SZ:=hdq Hk;clear hb Hk;cases x4
  ·have HF:=hdq (show R=false from by rw[HR.out];simp);clear HR;go_wp2_with fail;go_ret;exact⟨by rw[HF.out];rfl,GD.out⟩
  go_wp2_with fail;refine(H5 _ GD.out).mono ?_;rintro _ w9 ⟨rfl,hb⟩;have FT:=hdq (GD.trans hb);clear hb;have HF:=hdq (show R=x5 from by rw[HR.out];simp);clear HR;go_wp2_with fail;go_ret;exact⟨by rw[HF.out];rfl,FT.out⟩
def MsC (xs:Sts):Prop:=∀(W:World)(S:Nat->Prop)(Z:Prop)(A:Option Addr)(c:Nat),(∀b,S b->b < W.heap.size)->szS xs->SlR (λb o=>StR W S Z xs b o) xs.len 128 A c->
 Calls Tryz.prog 105 #[.slice A xs.len c] W (zae (okS xs) W)
def MsI (xs:Sts):Prop:=∀(i:Nat)(a0:Int)(a1:ByteArray)(a2:Exs)(a3:Cds)(a4 a5:Sts)(a6:Int)(ar:Sts),Sts.drop i xs= .cons a0 a1 a2 a3 a4 a5 a6 ar->MsC a4/\MsC a5
theorem zg5:∀(i:Nat) {xs:Sts} {a0 a1 a2 a3 a4 a5 a6 ar},szS xs->Sts.drop i xs= .cons a0 a1 a2 a3 a4 a5 a6 ar->a1.size<=9223372036854775807/\szX a2/\szC a3/\szS a4/\szS a5
 |0,.nil,_,_,_,_,_,_,_,_,_,hd=>by simp[Sts.drop]at hd
 |i+1,.nil,_,_,_,_,_,_,_,_,_,hd=>by simp[Sts.drop]at hd
 |0,.cons _ _ _ _ _ _ _ _,_,_,_,_,_,_,_,_,h,hd=>by
  simp only[Sts.drop]at hd;injection hd with e0 e1 e2 e3 e4 e5 e6 e7;subst e1 e2 e3 e4 e5;exact⟨h.1,h.2.1,h.2.2.1,h.2.2.2.1,h.2.2.2.2.1⟩
 |i+1,.cons _ _ _ _ _ _ _ _,_,_,_,_,_,_,_,_,h,hd=>by
  simp only[Sts.drop]at hd;exact zg5 i h.2.2.2.2.2 hd
theorem zkT {xs:Sts}{i:Nat}{a0 a1 a2 a3 a4 a5 a6 ar}(hd:Sts.drop i xs= .cons a0 a1 a2 a3 a4 a5 a6 ar):okS (Sts.drop i xs)=(okT a0 a1 a2 a3 a4 a5 a6&&okS (Sts.drop (i+1) xs)):=by
 rw[Sts.drop_succ i xs hd,hd];rfl
theorem zmy (k:Int)(hk:k < 1\/9 < k)(nm:ByteArray)(A2 A3 A4 A5:Option Addr)(l2 l3 l4 l5 q2 q3 q4 q5:Nat)(at_:Int)(w:World):
  Calls Tryz.prog 168 #[.agg #[.int .u8 k,.string nm,.slice A2 l2 q2,.slice A3 l3 q3,.slice A4 l4 q4,.slice A5 l5 q5,.int .i64 at_]] w (zae false w):=by
 have Hn:=hdq (show Fr NoT w (w.alloc (.cells #[.int .u8 k,.string nm,.slice A2 l2 q2,.slice A3 l3 q3,.slice A4 l4 q4,.slice A5 l5 q5,.int .i64 at_] 39))from(Fr.refl _ _).alloc _);rcases hk with h|h
 ·have e1:decide (k < 1)=true:=by simp;omega
  clear h;go_enter Tryz.func168,Tryz.ntmps168;go_wp2_with fail;go_ret;exact⟨rfl,Hn.out⟩
 ·have e1:decide (k < 1)=false:=by simp;omega
  have e2:decide (9 < k)=true:=by simp;omega
  clear h;go_enter Tryz.func168,Tryz.ntmps168;go_wp2_with fail;go_ret;exact⟨rfl,Hn.out⟩
theorem zmz (k:Int)(nm:ByteArray)(args:Exs)(cond:Cds)(body els:Sts)(at_:Int)(w:World)(S:Nat->Prop)(Z:Prop)(A2 A3 A4 A5:Option Addr)(q2 q3 q4 q5:Nat)(hs:nm.size<=9223372036854775807)(hS:∀b,S b->b < w.heap.size)(Gh:szX args)(Gn:szC cond)
  (hx:SlR (λb o=>ExR w S Z args b o) args.len 64 A2 q2) (hy:SlR (λb o=>CdR w S Z cond b o) cond.len 64 A3 q3) (Gy:body.len<=9223372036854775807) (GN:els.len<=9223372036854775807)
  (h4:∀W,Fr NoT w W->Calls Tryz.prog 105 #[.slice A4 body.len q4] W (zae (okS body) W)) (h5:∀W,Fr NoT w W->Calls Tryz.prog 105 #[.slice A5 els.len q5] W (zae (okS els) W)):
  Calls Tryz.prog 168 #[.agg #[.int .u8 k,.string nm,.slice A2 args.len q2,.slice A3 cond.len q3,.slice A4 body.len q4,.slice A5 els.len q5,.int .i64 at_]] w (zae (okT k nm args cond body els at_) w):=by
 by_cases h:k < 1\/9 < k
 ·have:=zmy k h nm A2 A3 A4 A5 args.len cond.len body.len els.len q2 q3 q4 q5 at_ w;rw[show okT k nm args cond body els at_=false from by
   unfold okT;rcases h with h|h
   ·rw[show decide (1<=k)=false from by simp;omega];simp
   ·rw[show decide (k<=9)=false from by simp;omega];simp]
  exact this
 have:k=1\/k=2\/k=3\/k=4\/k=5\/k=6\/k=7\/k=8\/k=9:=by omega
 rcases this with rfl|rfl|rfl|rfl|rfl|rfl|rfl|rfl|rfl
 ·exact zm3 nm args cond body els at_ w S Z A2 A3 A4 A5 q2 q3 q4 q5 hs hS Gh Gn hx hy Gy GN h4 h5
 ·exact zm4 nm args cond body els at_ w S Z A2 A3 A4 A5 q2 q3 q4 q5 hs hS Gh Gn hx hy Gy GN h4 h5
 ·exact zm5 nm args cond body els at_ w S Z A2 A3 A4 A5 q2 q3 q4 q5 hs hS Gh Gn hx hy Gy GN h4 h5
 ·exact zm9 nm args cond body els at_ w S Z A2 A3 A4 A5 q2 q3 q4 q5 hs hS Gh Gn hx hy Gy GN h4 h5
 ·exact znb nm args cond body els at_ w S Z A2 A3 A4 A5 q2 q3 q4 q5 hs hS Gh Gn hx hy Gy GN h4 h5
 ·exact znc nm args cond body els at_ w S Z A2 A3 A4 A5 q2 q3 q4 q5 hs hS Gh Gn hx hy Gy GN h4 h5
 ·exact znd nm args cond body els at_ w S Z A2 A3 A4 A5 q2 q3 q4 q5 hs hS Gh Gn hx hy Gy GN h4 h5
 ·exact zne nm args cond body els at_ w S Z A2 A3 A4 A5 q2 q3 q4 q5 hs hS Gh Gn hx hy Gy GN h4 h5
 ·exact zna nm args cond body els at_ w S Z A2 A3 A4 A5 q2 q3 q4 q5 hs hS Gh Gn hx hy Gy GN h4 h5
theorem zi6 (xs:Sts)(Ho:MsI xs):MsC xs:=by
 intro w S Z A c hS Ht hx;have hl:xs.len<=9223372036854775807:=leq9 hx.1 hx.2.1.1;have HA:=hdq Ho;have HX:=hdq hx;have HS:=hdq hS;have HZ:=hdq Ht;obtain⟨m,hm⟩:=nmq xs.len;rw[<-hm]at hl ⊢;have HM:=hdq hm;obtain⟨F,hF⟩:=nmq (okS xs);rw[<-hF];have HF:=hdq hF;clear Ho hx hS hm hF Ht;go_enter Tryz.func105,Tryz.ntmps105;go_wp2_with fail;go_loopw [3] (λi wr=>∃k:Nat,k<=m/\i= .int .i64 k/\Hid (Fr NoT w wr)/\Hid (F=okS (Sts.drop k xs))) (λi _=>m - (intOf i).toNat);case atStart=>exact⟨0,Nat.zero_le _,rfl,Fr.refl _ _,HF.out⟩
 case round=>
  clear HF;obtain⟨k,hk,rfl,hb,Ha⟩:=hrel;by_cases Hr:k < m
  ·obtain⟨a0,a1,a2,a3,a4,a5,a6,ar,hd⟩:=Sts.drop_cons (show k < xs.len from by rw[<-HM.out];exact Hr);obtain⟨b,o,rfl,Hd⟩:=HX.2.2 (by rw[<-HM.out];omega);have Hb:=(StR.keep (hb.same λb hb=>⟨HS b hb,id⟩) Hd).drop k;rw[hd]at Hb;obtain⟨⟨Hf,_,r0,r1,c0,c1,c6⟩,⟨A2,q2,c2,s2⟩,⟨A3,q3,c3,s3⟩,⟨A4,q4,c4,s4⟩,⟨A5,q5,c5,s5⟩,_⟩:=Hb;have Gf:b < wr.heap.size:=ltq (HS _ Hf) hb.size;have Hl:(k:Int) < (m:Int):=by omega
   have Fb:(0:Int)<=(k:Int):=by omega
   obtain⟨z1,z2,z3,z4,z5⟩:=zg5 k HZ.out hd;have Jr:∀b,S b->b < wr.heap.size:=λb h=>ltq (HS b h) hb.size;obtain⟨KZ,Lr⟩:=HA k a0 a1 a2 a3 a4 a5 a6 ar hd;have Ge:=zmz a0 a1 a2 a3 a4 a5 a6 wr S Z A2 A3 A4 A5 q2 q3 q4 q5 z1 Jr z2 z3 s2 s3 (leq9 s4.1 s4.2.1.1) (leq9 s5.1 s5.2.1.1)
    (λW hf=>KZ W S Z A4 q4 (λb h=>ltq (Jr b h) hf.size) z4 (s4.imp λ_ _ hx=>StR.keep (hf.same λb hb=>⟨Jr b hb,id⟩) hx))
    (λW hf=>Lr W S Z A5 q5 (λb h=>ltq (Jr b h) hf.size) z5 (s5.imp λ_ _ hx=>StR.keep (hf.same λb hb=>⟨Jr b hb,id⟩) hx))
   have Hq:=Ha.trans (zkT hd);obtain⟨v,hv⟩:=nmq (okT a0 a1 a2 a3 a4 a5 a6);rw[<-hv]at Hq Ge;have H1:=hdq Ge;have Hj:=hdq Hq;have HB:=hdq hb.out;clear hd Hd Ha hb Hf s2 s3 s4 s5 r0 r1 Ge Hq hv z1 z2 z3 z4 z5 Jr KZ Lr;go_wp2_with fail;refine H1.mono ?_;rintro _ w1 ⟨rfl,Gi⟩;have Hu:=hdq (HB.trans Gi);clear Gi c0 c1 c2 c3 c4 c5 c6;cases v
   ·have HF:=hdq (show F=false from by rw[Hj.out];rfl);clear Hj;go_wp2_with fail;go_ret;exact⟨by rw[HF.out];rfl,Hu.out⟩
   ·have HN:=hdq (show F=okS (Sts.drop (k+1) xs)from by rw[Hj.out];rfl);clear Hj;go_wp2_with fail;go_roundw;case rel=>exact⟨k+1,by omega,by go_num,Hu.out,HN.out⟩
    case measure=>simp[intOf];omega
  ·have HF:=hdq (show F=true from by rw[Ha.out,Sts.drop_nil (by rw[<-HM.out];omega)];rfl);have HB:=hdq hb.out;clear Ha hb;go_wp2_with fail;go_ret;exact⟨by rw[HF.out];rfl,HB.out⟩
theorem zeW:∀xs:Sts,MsI xs
 | .nil =>λi _ _ _ _ _ _ _ _ hd=>by cases i<;>simp[Sts.drop]at hd
 | .cons k0 k1 k2 k3 k4 k5 k6 kr=>λi _ _ _ _ _ _ _ _ hd=>by
  cases i with
  |zero=>
   simp only[Sts.drop]at hd;injection hd with e0 e1 e2 e3 e4 e5 e6 e7;subst e0 e1 e2 e3 e4 e5 e6 e7;exact⟨zi6 k4 (zeW k4),zi6 k5 (zeW k5)⟩
  |succ i=>
   simp only[Sts.drop]at hd;exact zeW kr i _ _ _ _ _ _ _ _ hd
theorem zen (xs:Sts):MsC xs:=zi6 xs (zeW xs)
theorem zeo (xs:List Va)(w:World)(S:Nat->Prop)(Z:Prop)(A:Option Addr)(c:Nat)(hS:∀b,S b->b < w.heap.size)(Ht:∀x∈xs,x.nm.size<=9223372036854775807)(hx:SlR (VaR w S Z xs) xs.length 24 A c):
  Calls Tryz.prog 104 #[.slice A xs.length c] w (zae (okVs xs) w):=by
 have hl:xs.length<=9223372036854775807:=leq9 hx.1 hx.2.1.1;have HX:=hdq hx;have HS:=hdq hS;have HZ:=hdq Ht;obtain⟨m,hm⟩:=nmq xs.length;rw[<-hm]at hl ⊢;have HM:=hdq hm;obtain⟨F,hF⟩:=nmq (okVs xs);rw[<-hF];have HF:=hdq (show F=zbL (λnm _=>zak nm.data.toList) (xs.drop 0)from hF);clear hx hS hm hF Ht;go_enter Tryz.func104,Tryz.ntmps104;go_wp2_with fail;go_loopw [3] (λi wr=>∃k:Nat,k<=m/\i= .int .i64 k/\Hid (Fr NoT w wr)/\Hid (F=zbL (λnm _=>zak nm.data.toList) (xs.drop k))) (λi _=>m - (intOf i).toNat);case atStart=>exact⟨0,Nat.zero_le _,rfl,Fr.refl _ _,HF.out⟩
 case round=>
  clear HF;obtain⟨k,hk,rfl,hb,Ha⟩:=hrel;by_cases Hr:k < m
  ·obtain⟨⟨a0,a1⟩,ar,hd⟩:=zac (show k < xs.length from by rw[<-HM.out];exact Hr);obtain⟨b,o,rfl,Hd⟩:=HX.2.2 (by rw[<-HM.out];omega);have Hb:=(VaR.keep (hb.same λb hb=>⟨HS b hb,id⟩) Hd).drop k;rw[hd.1]at Hb;obtain⟨⟨Hf,_,r0,c0,c1⟩,_⟩:=Hb;have Gf:b < wr.heap.size:=ltq (HS _ Hf) hb.size;have Hl:(k:Int) < (m:Int):=by omega
   have Fb:(0:Int)<=(k:Int):=by omega
   have Ge:=zaE a0 (HZ _ (zaN hd.1)) wr;have Hq:=Ha.trans (zef hd);obtain⟨v,hv⟩:=nmq (zak a0.data.toList);rw[<-hv]at Hq Ge;have H1:=hdq Ge;have Hj:=hdq Hq;have HB:=hdq hb.out;simp only at c0 c1;clear hd Hd Ha hb Hf r0 Ge Hq hv;go_wp2_with fail;refine H1.mono ?_;rintro _ w1 ⟨rfl,Gi⟩;have Hu:=hdq (HB.trans (Fr.below Gi));clear Gi c0 c1;cases v
   ·have HF:=hdq (show F=false from by rw[Hj.out];rfl);clear Hj;go_wp2_with fail;go_ret;exact⟨by rw[HF.out];rfl,Hu.out⟩
   ·have HN:=hdq (show F=zbL (λnm _=>zak nm.data.toList) (xs.drop (k+1))from by rw[Hj.out];rfl);clear Hj;go_wp2_with fail;go_roundw;case rel=>exact⟨k+1,by omega,by go_num,Hu.out,HN.out⟩
    case measure=>simp[intOf];omega
  ·have HF:=hdq (show F=true from by rw[Ha.out,List.drop_eq_nil_of_le (by rw[<-HM.out];omega)];rfl);have HB:=hdq hb.out;clear Ha hb;go_wp2_with fail;go_ret;exact⟨by rw[HF.out];rfl,HB.out⟩
def okA1 (nm:ByteArray)(size:Int)(_:Int):Bool:=zak nm.data.toList&&decide (0<=size)
def okP1 (nm:ByteArray)(ps:List Va)(body:Sts)(_:Int):Bool:=zak nm.data.toList&&okVs ps&&okS body
theorem zkU (t:Tre)(w:World)(S:Nat->Prop)(Z:Prop)(Av Aa Ap Am:Option Addr)(cv ca cp cm:Nat)(hS:∀b,S b->b < w.heap.size)(Ht:SzT t)(hx:TrR w S Z t Av Aa Ap Am cv ca cp cm):
  Calls Tryz.prog 42 #[trV t Av Aa Ap Am cv ca cp cm] w (zae (okTr t) w):=by
 have Nn:∀W,Fr NoT w W->∀b,S b->b < W.heap.size:=λW h b hb=>ltq (hS b hb) h.size;have Uy:∀W,Fr NoT w W->TrR W S Z t Av Aa Ap Am cv ca cp cm:=λW h=>hx.keep (h.same λb hb=>⟨hS b hb,id⟩);have h1:=λW (h:Fr NoT w W)=>zeo t.vars W S Z Av cv (Nn W h) Ht.vars (Uy W h).vars;have h2:=λW (h:Fr NoT w W)=>zen t.main W S Z Am cm (Nn W h) Ht.main (Uy W h).main;have Gl:t.arrays.length<=9223372036854775807:=leq9 hx.arrays.1 hx.arrays.2.1.1;have Gz:t.procs.length<=9223372036854775807:=leq9 hx.procs.1 hx.procs.2.1.1;obtain⟨R,hR⟩:=nmq (okTr t);rw[<-hR];replace hR:R=(okVs t.vars&&okS t.main&&zbU okA1 t.arrays&&zbm okP1 t.procs):=hR;unfold trV;obtain⟨n1,Gk⟩:=nmq t.vars.length;obtain⟨n2,Gu⟩:=nmq t.arrays.length;obtain⟨n3,GJ⟩:=nmq t.procs.length;obtain⟨n4,GV⟩:=nmq t.main.len;obtain⟨v1,FF⟩:=nmq (okVs t.vars);obtain⟨v2,JZ⟩:=nmq (okS t.main);rw[<-Gk,<-FF]at h1;rw[<-GV,<-JZ]at h2;rw[<-FF,<-JZ]at hR;rw[<-Gu]at Gl;rw[<-GJ]at Gz;rw[<-Gk,<-Gu,<-GJ,<-GV];have Le:=hdq Gu;have JO:=hdq GJ;have H1:=hdq h1;have H2:=hdq h2;have HR:=hdq hR;have Yd:=hdq Nn;have gB:=hdq Uy;have HZ:=hdq Ht;have Hn:=hdq (show Fr NoT w (w.alloc (.cells #[.slice Av n1 cv,.slice Aa n2 ca,.slice Ap n3 cp,.slice Am n4 cm] 27))from(Fr.refl _ _).alloc _);have Gv:=hdq (Bk.new w 27 #[.slice Av n1 cv,.slice Aa n2 ca,.slice Ap n3 cp,.slice Am n4 cm]);clear Nn Uy h1 h2 hR Gk Gu GJ GV FF JZ hx hS Ht;go_enter Tryz.func42,Tryz.ntmps42;go_wp2_with fail;refine(H1 _ Hn.out).mono ?_;rintro _ w2 ⟨rfl,hb⟩
 have hk:=Gv.fr0 hb;obtain⟨x0,x1,x2,x3,Hv⟩:=bk4 hk;have Hy:=hdq (Hn.trans hb);have FX:=hdq hk;clear hb hk;cases v1
 ·have HF:=hdq (show R=false from by rw[HR.out];simp);clear HR;go_wp2_with fail;go_ret;exact⟨by rw[HF.out];rfl,Hy.out⟩
 go_wp2_with fail;refine(H2 _ Hy.out).mono ?_;rintro _ w3 ⟨rfl,hb⟩;have hk:=FX.fr0 hb;clear x0 x1 x2 x3 Hv;obtain⟨x0,x1,x2,x3,Hv⟩:=bk4 hk;have Gc:=hdq (Hy.trans hb);have F5:=hdq hk;clear hb hk;cases v2
 ·have HF:=hdq (show R=false from by rw[HR.out];simp);clear HR;go_wp2_with fail;go_ret;exact⟨by rw[HF.out];rfl,Gc.out⟩
 have gC:=hdq (show R=(zbU okA1 (t.arrays.drop 0)&&zbm okP1 t.procs)from by rw[HR.out];simp);clear HR;go_wp2_with fail;go_loopw [3] (λi wr=>∃k:Nat,k<=n2/\i= .int .i64 k/\Hid (Fr NoT w3 wr)/\Hid (R=(zbU okA1 (t.arrays.drop k)&&zbm okP1 t.procs))) (λi _=>n2 - (intOf i).toNat);case atStart=>exact⟨0,Nat.zero_le _,rfl,Fr.refl _ _,gC.out⟩
 case round=>
  clear gC x0 x1 x2 x3 Hv;obtain⟨k,hk,rfl,hb,Ha⟩:=hrel;have FR:=F5.fr0 hb.out;obtain⟨x0,x1,x2,x3,Hv⟩:=bk4 FR;have vF:=hdq FR;have HB:=hdq (Gc.trans hb.out);have Kd:=hdq hb.out;clear FR hb;by_cases Hr:k < n2
  ·have Hl:(k:Int) < (n2:Int):=by omega
   have Fb:(0:Int)<=(k:Int):=by omega
   obtain⟨⟨a0,a1,a2⟩,ar,hd⟩:=zac (show k < t.arrays.length from by rw[<-Le.out];exact Hr);obtain⟨b,o,rfl,Hd⟩:=(gB _ HB.out).arrays.2.2 (by rw[<-Le.out];omega);have Hb:=Hd.drop k;rw[hd.1]at Hb;obtain⟨⟨Hf,_,r0,r1,c0,c1,c2⟩,_⟩:=Hb;have Gf:b < wr.heap.size:=Yd _ HB.out _ Hf;have Ge:=zaE a0 (HZ.arrays _ (zaN hd.1)) wr;have Hq:=Ha.out;rw[zeg hd]at Hq;unfold okA1 at Hq;obtain⟨v,hv⟩:=nmq (zak a0.data.toList);rw[<-hv]at Hq Ge;have H1:=hdq Ge;have Hj:=hdq Hq;simp only at c0 c1 c2;have K1:=hdq (aiq Gf c1);clear hd Ha r0 r1 Ge Hq hv Hd Hf;go_wp2_with fail;refine H1.mono ?_;rintro _ w4 ⟨rfl,Gi⟩;have hf:=Fr.below (T:=NoT) Gi;have Hu:=hdq (HB.trans hf);have Ks:=hdq (Kd.trans hf);have GX:=vF.fr0 hf;have c1':=(hf.cell (p:=⟨b,o+k*3+1,none⟩) K1.1 id).trans K1.2;have zD:=ltq K1.1 hf.size;clear x0 x1 x2 x3 Hv Gi c0 c1 c2 Gf hf;obtain⟨x0,x1,x2,x3,Hv⟩:=bk4 GX;clear GX;cases v
   ·have HF:=hdq (show R=false from by rw[Hj.out];simp);clear Hj;go_wp2_with fail;go_ret;exact⟨by rw[HF.out];rfl,Hu.out⟩
   by_cases Ht:0<=a1
   rotate_left
   ·have HF:=hdq (show R=false from by rw[Hj.out,show decide (0<=a1)=false from by simp;omega];simp);have e1:decide (a1 < 0)=true:=by simp;omega
    clear Hj;go_wp2_with fail;go_ret;exact⟨by rw[HF.out];rfl,Hu.out⟩
   ·have HN:=hdq (show R=(zbU okA1 (t.arrays.drop (k+1))&&zbm okP1 t.procs)from by rw[Hj.out,show decide (0<=a1)=true from by simpa using Ht];simp;rfl);have e1:decide (a1 < 0)=false:=by simp;omega
    clear Hj;go_wp2_with fail;go_roundw;case rel=>exact⟨k+1,by omega,by go_num,Ks.out,HN.out⟩
    case measure=>simp[intOf];omega
  ·have Hl:¬(k:Int) < (n2:Int):=by omega
   have HQ:=hdq (show R=zbm okP1 (t.procs.drop 0)from by rw[Ha.out,List.drop_eq_nil_of_le (by rw[<-Le.out];omega)];simp[zbU]);clear Ha;go_wp2_with fail;clear x0 x1 x2 x3 Hv;obtain⟨wq,rfl⟩:∃wq:World,wq=wr:=⟨_,rfl⟩;go_loopw [4] (λi wr=>∃k:Nat,k<=n3/\i= .int .i64 k/\Hid (Fr NoT w3 wr)/\Hid (R=zbm okP1 (t.procs.drop k))) (λi _=>n3 - (intOf i).toNat);case atStart=>exact⟨0,Nat.zero_le _,rfl,Kd.out,HQ.out⟩
   case round=>
    clear HQ HB Kd vF;obtain⟨j,hj,rfl,hb,Ha⟩:=hrel;have FR:=F5.fr0 hb.out;obtain⟨x0,x1,x2,x3,Hv⟩:=bk4 FR;have HB:=hdq (Gc.trans hb.out);have Kd:=hdq hb.out;clear FR hb;by_cases Nz:j < n3
    ·have Rq:(j:Int) < (n3:Int):=by omega
     have Fb:(0:Int)<=(j:Int):=by omega
     obtain⟨⟨a0,a1,a2,a3⟩,ar,hd⟩:=zac (show j < t.procs.length from by rw[<-JO.out];exact Nz);obtain⟨b,o,rfl,Hd⟩:=(gB _ HB.out).procs.2.2 (by rw[<-JO.out];omega);have Hb:=Hd.drop j;rw[hd.1]at Hb;obtain⟨⟨Hf,_,r0,c0,c3⟩,⟨A1,q1,c1,s1⟩,⟨A2,q2,c2,s2⟩,_⟩:=Hb;have Gf:b < wr.heap.size:=Yd _ HB.out _ Hf;obtain⟨z1,z2,z3⟩:=HZ.procs _ (zaN hd.1);simp only at c0 c1 c2 c3 s1 s2 z1 z2 z3;have Jr:=Yd _ HB.out;have g1:=λ(W:World)=>zaE a0 z1 W;have g2:=λ(W:World)(hf:Fr NoT wr W)=>zeo a1 W S Z A1 q1 (λb h=>ltq (Jr b h) hf.size) z2 (s1.imp λ_ _ hx=>VaR.keep (hf.same λb hb=>⟨Jr b hb,id⟩) hx);have g3:=λ(W:World)(hf:Fr NoT wr W)=>zen a2 W S Z A2 q2 (λb h=>ltq (Jr b h) hf.size) z3 (s2.imp λ_ _ hx=>StR.keep (hf.same λb hb=>⟨Jr b hb,id⟩) hx);have Hq:=Ha.out;rw[zeh hd]at Hq;unfold okP1 at Hq;obtain⟨u1,JA⟩:=nmq (zak a0.data.toList);obtain⟨u2,Uz⟩:=nmq (okVs a1);obtain⟨u3,UA⟩:=nmq (okS a2);rw[<-JA]at Hq g1;rw[<-Uz]at Hq g2;rw[<-UA]at Hq g3;obtain⟨l1,Rr⟩:=nmq a1.length;obtain⟨l2,Rs⟩:=nmq a2.len;rw[<-Rr]at c1 g2;rw[<-Rs]at c2 g3;have G1:=hdq g1;have G2:=hdq g2;have G3:=hdq g3;have Hj:=hdq Hq;clear hd Ha r0 Hd Hf g1 g2 g3 Hq JA Uz UA Rr Rs z1 z2 z3 Jr s1 s2;have GO:=hdq (Bk.new wr 68 #[.string a0,.slice A1 l1 q1,.slice A2 l2 q2,.int .i64 a3]);have Hx:=hdq (show Fr NoT wr (wr.alloc (.cells #[.string a0,.slice A1 l1 q1,.slice A2 l2 q2,.int .i64 a3] 68))from(Fr.refl _ _).alloc _);go_wp2_with fail;refine(G1 _).mono ?_;rintro _ w6 ⟨rfl,Gi⟩;have hf:=Fr.below (T:=NoT) Gi;have hk:=GO.fr0 hf
     have GF:=hdq (Hx.trans hf);have Lw:=hdq hk;clear x0 x1 x2 x3 Hv c0 c1 c2 c3 Gi hf Gf;obtain⟨y0,y1,y2,y3,Hv⟩:=bk4 hk;clear hk;cases u1
     ·have HF:=hdq (show R=false from by rw[Hj.out];simp);clear Hj;go_wp2_with fail;go_ret;exact⟨by rw[HF.out];rfl,(HB.trans GF.out)⟩
     go_wp2_with fail;refine(G2 _ GF.out).mono ?_;rintro _ w7 ⟨rfl,hf⟩;have hk:=Lw.fr0 hf;have JG:=hdq (GF.trans hf);have Pk:=hdq hk;clear y0 y1 y2 y3 Hv hf;obtain⟨y0,y1,y2,y3,Hv⟩:=bk4 hk;clear hk;cases u2
     ·have HF:=hdq (show R=false from by rw[Hj.out];simp);clear Hj;go_wp2_with fail;go_ret;exact⟨by rw[HF.out];rfl,(HB.trans JG.out)⟩
     go_wp2_with fail;refine(G3 _ JG.out).mono ?_;rintro _ w8 ⟨rfl,hf⟩;have GD:=hdq (JG.trans hf);clear y0 y1 y2 y3 Hv hf;cases u3
     ·have HF:=hdq (show R=false from by rw[Hj.out];simp);clear Hj;go_wp2_with fail;go_ret;exact⟨by rw[HF.out];rfl,(HB.trans GD.out)⟩
     have HN:=hdq (show R=zbm okP1 (t.procs.drop (j+1))from by rw[Hj.out];simp;rfl);clear Hj;go_wp2_with fail;go_roundw;case rel=>exact⟨j+1,by omega,by go_num,Kd.trans GD.out,HN.out⟩
     case measure=>simp[intOf];omega
    ·have Rq:¬(j:Int) < (n3:Int):=by omega
     have HF:=hdq (show R=true from by rw[Ha.out,List.drop_eq_nil_of_le (by rw[<-JO.out];omega)];rfl);clear Ha;go_wp2_with fail;go_ret;exact⟨by rw[HF.out];rfl,HB.out⟩
theorem zbW {α:Type}{l:List α}{i:Nat}{x:α}{r:List α}(h:l.drop i=x::r):l[i]?=some x:=by
 have:=congrArg List.head? h;simpa using this
abbrev Wl:=List (ByteArray×Int×Int)
def RwR (w:World)(xs:List Value)(A:Option Addr)(c:Nat):Prop:=xs.length<=c/\c<=9223372036854775807/\(0 < xs.length->∃b,A=some ⟨b,0,none⟩/\b < w.heap.size/\∀i u,xs[i]?=some u->w.cell? ⟨b,i,none⟩=some u)
theorem RwR.keep {w w':World}{xs:List Value}{A:Option Addr}{c:Nat}(h:RwR w xs A c)(hf:Fr NoT w w'):RwR w' xs A c:=
 ⟨h.1,h.2.1,λh0=>by
  obtain⟨b,e,hb,hc⟩:=h.2.2 h0;exact⟨b,e,ltq hb hf.size,λi u hi=>(hf.cell (p:=⟨b,i,none⟩) hb id).trans (hc i u hi)⟩⟩
structure WdR (w:World)(ws:Wl)(An Ak Am:Option Addr)(cn ck cm:Nat):Prop where
 names:RwR w (ws.map λx=> .string x.1) An cn
 kinds:RwR w (ws.map λx=> .int .i64 x.2.1) Ak ck
 many:RwR w (ws.map λx=> .int .i64 x.2.2) Am cm
theorem WdR.keep {w w':World}{ws:Wl}{An Ak Am:Option Addr}{cn ck cm:Nat}(h:WdR w ws An Ak Am cn ck cm)(hf:Fr NoT w w'):WdR w' ws An Ak Am cn ck cm:=⟨h.names.keep hf,h.kinds.keep hf,h.many.keep hf⟩
theorem WdR.nil (w:World):WdR w [] none none none 0 0 0:=⟨⟨lrq _,by omega,λh=>absurd h (by simp)⟩,⟨lrq _,by omega,λh=>absurd h (by simp)⟩,⟨lrq _,by omega,λh=>absurd h (by simp)⟩⟩
def wdV (ws:Wl)(An Ak Am:Option Addr)(cn ck cm:Nat):Value:= .agg #[.slice An ws.length cn,.slice Ak ws.length ck,.slice Am ws.length cm]
def atI (nm:ByteArray):Wl->Nat->Int
 | [],_=> -1
 |x::r,i=>if x.1.toList==nm.toList then i else atI nm r (i+1)
def zbX (n:Int)(W:World)(e:Ending)(w':World):Prop:=e= .returned (.int .i64 n)/\Fr NoT W w'
theorem zbp (ws:Wl)(nm:ByteArray)(w:World)(An Ak Am:Option Addr)(cn ck cm:Nat)(hx:WdR w ws An Ak Am cn ck cm):
  Calls Tryz.prog 152 #[wdV ws An Ak Am cn ck cm,.string nm] w (zbX (atI nm ws 0) w):=by
 have hl:ws.length<=9223372036854775807:=by have:=hx.names.1;have:=hx.names.2.1;simp at*;omega
 unfold wdV;have HX:=hdq hx;obtain⟨m,hm⟩:=nmq ws.length;rw[<-hm]at hl ⊢;have HM:=hdq hm;obtain⟨F,hF⟩:=nmq (atI nm ws 0);rw[<-hF];have HF:=hdq hF;have Hn:=hdq (show Fr NoT w (w.alloc (.cells #[.slice An m cn,.slice Ak m ck,.slice Am m cm] 164))from(Fr.refl _ _).alloc _);have Gv:=hdq (Bk.new w 164 #[.slice An m cn,.slice Ak m ck,.slice Am m cm]);obtain⟨w1,Hc⟩:=nmq (w.alloc (.cells #[.slice An m cn,.slice Ak m ck,.slice Am m cm] 164));rw[<-Hc]at Hn Gv;have Ga:=hdq Hc;clear hx hm hF Hc;go_enter Tryz.func152,Tryz.ntmps152;go_wp2_with fail;rw[<-Ga.out];have k0:=Gv.cell 0;have Hv:=Gv.lt;simp only[getsL]at k0;go_loop [5] (λi=>∃k:Nat,k<=m/\i= .int .i64 k/\Hid (F=atI nm (ws.drop k) k)) (λi=>m - (intOf i).toNat);case atStart=>exact⟨0,Nat.zero_le _,rfl,HF.out⟩
 case round=>
  clear HF;obtain⟨k,hk,rfl,Ha⟩:=hrel;by_cases Hr:k < m
  ·obtain⟨⟨a0,a1,a2⟩,ar,hd⟩:=zac (show k < ws.length from by rw[<-HM.out];exact Hr);obtain⟨b,rfl,hb,Hd⟩:=(HX.names.keep Hn.out).2.2 (by simp;rw[<-HM.out];omega);have c0:=Hd k (.string a0) (by rw[List.getElem?_map,zbW hd.1];rfl);have Hl:(k:Int) < (m:Int):=by omega
   have Fb:(0:Int)<=(k:Int):=by omega
   have Hq:=Ha.out;rw[hd.1]at Hq;unfold atI at Hq;simp only at Hq;obtain⟨v,hv⟩:=nmq ((a0.toList==nm.toList));have e1:=hv.symm;rw[<-hv,<-hd.2]at Hq;have Hj:=hdq Hq;clear hd Ha Hd Hq hv;cases v
   ·have HN:=hdq (show F=atI nm (ws.drop (k+1)) (k+1)from by rw[Hj.out];rfl);clear Hj;go_wp2_with fail;go_round;case rel=>exact⟨k+1,by omega,by go_num,HN.out⟩
    case measure=>simp[intOf];omega
   ·have HN:=hdq (show F=k from by rw[Hj.out];rfl);clear Hj;go_wp2_with fail;go_ret;exact⟨by rw[HN.out];rfl,Hn.out⟩
  ·have HN:=hdq (show F= -1 from by rw[Ha.out,List.drop_eq_nil_of_le (by rw[<-HM.out];omega)];rfl);have Hl:¬(k:Int) < (m:Int):=by omega
   clear Ha;go_wp2_with fail;go_ret;exact⟨by rw[HN.out];rfl,Hn.out⟩
def fdW (nm:ByteArray):Wl->Option (Int×Int)
 | []=>none
 |x::r=>if x.1.toList==nm.toList then some x.2 else fdW nm r
def isI (nm:ByteArray)(kind:Int)(ws:Wl):Int:=match fdW nm ws with
 |none=>110
 |some v=>if v.1=kind then 0 else 112
theorem zc8 (nm:ByteArray):∀(ws:Wl)(k:Nat),(fdW nm ws=none/\atI nm ws k= -1)\/∃(i:Nat)(x:ByteArray×Int×Int),atI nm ws k=((k+i:Nat):Int)/\ws[i]?=some x/\fdW nm ws=some x.2
 | [],k=> .inl ⟨rfl,rfl⟩
 |y::r,k=>by
  unfold fdW atI;by_cases h:(y.1.toList==nm.toList)=true
  ·rw[if_pos h,if_pos h];exact .inr ⟨0,y,rfl,rfl,rfl⟩
  ·rw[if_neg h,if_neg h];rcases zc8 nm r (k+1)with⟨h1,h2⟩|⟨i,x,h1,h2,h3⟩
   ·exact .inl ⟨h1,h2⟩
   ·exact .inr ⟨i+1,x,by rw[h1];congr 1;omega,by simpa using h2,h3⟩
theorem zcO (ws:Wl)(nm:ByteArray)(kind:Int)(w:World)(An Ak Am:Option Addr)(cn ck cm:Nat)(hx:WdR w ws An Ak Am cn ck cm):
  Calls Tryz.prog 192 #[wdV ws An Ak Am cn ck cm,.string nm,.int .i64 kind] w (zbX (isI nm kind ws) w):=by
 have Hi:Fr NoT w (w.alloc (.cells #[.slice An ws.length cn,.slice Ak ws.length ck,.slice Am ws.length cm] 164)):=(Fr.refl _ _).alloc _;have h1:=zbp ws nm _ An Ak Am cn ck cm (hx.keep Hi);have hl:ws.length<=9223372036854775807:=by have:=hx.names.1;have:=hx.names.2.1;simp at*;omega
 obtain⟨F,hF⟩:=nmq (isI nm kind ws);rw[<-hF];unfold isI at hF;have hs:=zc8 nm ws 0;unfold wdV at h1 ⊢;have HX:=hdq hx;obtain⟨m,hm⟩:=nmq ws.length;rw[<-hm]at hl h1 Hi ⊢;have HM:=hdq hm;have Hn:=hdq Hi;have Gv:=hdq (Bk.new w 164 #[.slice An m cn,.slice Ak m ck,.slice Am m cm]);rcases hs with⟨e1,e2⟩|⟨i,x,e1,e2,e3⟩
 ·rw[e2]at h1;rw[e1]at hF;have H1:=hdq h1;have HF:=hdq (show F=110 from hF);clear hx hm hF Hi h1 e1 e2;go_enter Tryz.func192,Tryz.ntmps192;go_wp2_with fail;refine H1.mono ?_;rintro _ w2 ⟨rfl,hb⟩;have Hy:=hdq (Hn.trans hb);clear hb;go_wp2_with fail;go_ret;exact⟨by rw[HF.out];rfl,Hy.out⟩
 ·rw[e1,Nat.zero_add]at h1;rw[e3]at hF;have hi:i < m:=by rw[hm];exact(List.getElem?_eq_some_iff.1 e2).1
  obtain⟨b,rfl,hb,Hd⟩:=hx.kinds.2.2 (by simp;omega);have c1:=Hd i (.int .i64 x.2.1) (by rw[List.getElem?_map,e2];rfl);obtain⟨a0,a1,a2⟩:=x;simp only at c1 hF;have H1:=hdq h1;have HC:=hdq (aiq hb c1);clear hx hm Hi h1 e1 e2 e3 Hd c1 hb;have Qe:(i:Int) < (m:Int):=by omega
  have Fb:(0:Int)<=(i:Int):=by omega
  have Tj:decide ((i:Int) < 0)=false:=by simp
  have JC:(a1=kind/\F=0)\/(a1≠kind/\F=112):=by
   by_cases h:a1=kind
   ·exact .inl ⟨h,by rw[hF,if_pos h]⟩
   ·exact .inr ⟨h,by rw[hF,if_neg h]⟩
  clear hF;rcases JC with⟨h,hF⟩|⟨h,hF⟩
  ·have HF:=hdq hF;have e1:(a1 != kind)=false:=by simpa using h
   clear hF h;go_enter Tryz.func192,Tryz.ntmps192;go_wp2_with fail;refine H1.mono ?_;rintro _ w2 ⟨rfl,hf⟩;have Hy:=hdq (Hn.trans hf);have hk:=Gv.fr0 hf;have k1:=hk.cell 1;have Hv:=hk.lt;have d1:=(Hy.cell (p:=⟨b,i,none⟩) HC.1 id).trans HC.2;have Gf:=ltq HC.1 Hy.size;simp only[getsL]at k1;clear hf hk;go_wp2_with fail;go_ret;exact⟨by rw[HF.out];rfl,Hy.out⟩
  ·have HF:=hdq hF;have e1:(a1 != kind)=true:=by simpa using h
   clear hF h;go_enter Tryz.func192,Tryz.ntmps192;go_wp2_with fail;refine H1.mono ?_;rintro _ w2 ⟨rfl,hf⟩;have Hy:=hdq (Hn.trans hf);have hk:=Gv.fr0 hf;have k1:=hk.cell 1;have Hv:=hk.lt;have d1:=(Hy.cell (p:=⟨b,i,none⟩) HC.1 id).trans HC.2;have Gf:=ltq HC.1 Hy.size;simp only[getsL]at k1;clear hf hk;go_wp2_with fail;go_ret;exact⟨by rw[HF.out];rfl,Hy.out⟩
