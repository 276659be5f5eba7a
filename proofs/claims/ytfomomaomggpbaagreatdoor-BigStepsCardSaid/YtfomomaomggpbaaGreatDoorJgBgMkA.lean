/- big: the making of a call. -/
import Derived.Test.YtfomomaomggpbaaGreatDoorJgBgSeq
set_option linter.all false
set_option maxHeartbeats 3200000
set_option maxRecDepth 100000
namespace Go.Proofs.YtfomomaomggpbaaGreatDoor
open Go.RowKit Go.Shelf
def ClS (C:BgC)(p q:Nat)(nm:ByteArray)(v:Value)(W:World):Prop:=W.cell? ⟨p,0,none⟩=some (.pointer (some ⟨C.P,0,none⟩))/\W.cell? ⟨C.P,2,none⟩=some (.map (some C.MP))/\W.cell? ⟨q,1,none⟩=some (.string nm)/\(Instr.lookup 71 (.map (some C.MP)) (.string nm) false).run Tryz.prog W= .ok v W
theorem zkG (C:BgC)(ps:List (List UInt8))(ho:C.Ok)(k:Int)(nm:ByteArray)(args:Exs)(at_:Int)(hX:∀i k0 n0 m0 a0 t0 r0,Exs.drop i args= .cons k0 n0 m0 a0 t0 r0->ExpC C ps k0 n0 m0 a0 t0)(D:DoR)(W:World)(S:Nat->Prop)(Z:Prop)(A2 A3 A4 A5:Option Addr)(c2 l3 c3 l4 c4 l5 c5:Nat)(hT:C.T<=W.heap.size)(Gy:PgAt C W)(hS:∀x,S x->x < C.B)(hx:SlR (λb o=>ExR W S Z args b o) args.len 64 A2 c2)
  {Ap:Option Addr} {np cp:Nat} {vb:Value} (JK:∀w',Fr NoT W w'->(Instr.lookup 71 (.map (some C.MP)) (.string nm) false).run Tryz.prog w'= .ok (.agg #[.slice Ap np cp,vb]) w') (Nt:∃gg cps,vb= .func (.func gg) #[] cps)
  (hD:∀w' x A c vs,Fr NoT W w'->Bx W.heap.size w'.heap.size w' W.heap.size 69 #[.pointer (some ⟨C.P,0,none⟩)]->Bx W.heap.size w'.heap.size w' (W.heap.size+1) 51 (bgStC k nm A2 A3 A4 A5 args.len c2 l3 c3 l4 c4 l5 c5 at_)->Bx W.heap.size w'.heap.size w' (W.heap.size+2) 83 #[.slice Ap np cp,vb]->Bx W.heap.size w'.heap.size w' x 276 #[.slice A args.len c]->RowF W.heap.size w'.heap.size w' A c vs->vs.length=args.len->
   (∀(i:Nat) u X,vs[i]?=some u->(xsV C.n ps args)[i]?=some X->ValP C ps u X W.heap.size w'.heap.size w')->DoP C ps (.func (.func 183) #[] #[.pointer (some ⟨W.heap.size,0,none⟩),.pointer (some ⟨W.heap.size+1,0,none⟩),.pointer (some ⟨W.heap.size+2,0,none⟩),.pointer (some ⟨x,0,none⟩)]) D W.heap.size w'.heap.size w'):
  Calls Tryz.prog 111 #[.pointer (some ⟨C.P,0,none⟩),.agg (bgStC k nm A2 A3 A4 A5 args.len c2 l3 c3 l4 c4 l5 c5 at_)] W (MkD C ps D W):=by
 obtain⟨gB,capsB,rfl⟩:=Nt;obtain⟨i1,G0,Hy,Fc,Gw⟩:=info_parts zhQ;obtain⟨n,hn⟩:=nmq args.len;have Jp:n*64<=140737488355328:=by rw[hn];exact hx.2.1.2
 have Fa:C.B<=W.heap.size:=by have h1:=ho.br;have h2:=ho.rT;omega
 have Gq:∀w',Fr NoT W w'->PgAt C w':=λw' hf=>Gy.later ho (Later.of0 (lo:=0) (hi:=0) hf (Nat.zero_le _) hT);have Fe:∀w',Fr NoT W w'->SameS S W w':=λw' hf=>hf.same λb hb=>⟨ltq (hS b hb) Fa,id⟩;obtain⟨w0,Q8⟩:=nmq (stW W C k nm A2 A3 A4 A5 n c2 l3 c3 l4 c4 l5 c5 at_);have Jc:Fr NoT W w0:=by rw[Q8];exact((Fr.refl _ _).alloc _).alloc _
 have T4:Bk w0 W.heap.size 69 #[.pointer (some ⟨C.P,0,none⟩)]:=by rw[Q8];exact(Bk.new _ _ _).alloc _
 have T5:Bk w0 (W.heap.size+1) 51 (bgStC k nm A2 A3 A4 A5 n c2 l3 c3 l4 c4 l5 c5 at_):=by rw[Q8];exact Bk.new_at _ _ _ (by simp)
 have RL:w0.heap.size=W.heap.size+2:=by rw[Q8];simp
 obtain⟨w2,HJ⟩:=nmq ((w0.alloc (.cells #[.slice Ap np cp,.func (.func gB) #[] capsB] 83)).drew );have QI:Fr NoT w0 w2:=by
  rw[HJ];exact((Fr.refl NoT w0).alloc _).drew
 have He:=Jc.trans QI;have Wo:=T4.fr0 QI;have T0:=T5.fr0 QI;have Gb:Bk w2 (W.heap.size+2) 83 #[.slice Ap np cp,.func (.func gB) #[] capsB]:=by
  rw[HJ];exact Bk.new_at w0 _ _ RL
 have Ny:w2.heap.size=W.heap.size+3:=by rw[HJ];simp[RL]
 obtain⟨w3,GL⟩:=nmq (w2.alloc (.cells #[.slice none 0 0] 276));have JP:MkL C w2 w3 w2.heap.size 276 278 (.slice none 0 0) [] (PVal C ps (xsV C.n ps args)):=MkL.zero (by rw[GL];exact(Fr.refl _ _).alloc _) (lrq _) (by rw[GL];exact Bk.new _ _ _);have q2:=(T0.fr0 JP.fr).cell 2;simp only[bgStC,List.getElem?_toArray,List.getElem?_cons_succ,List.getElem?_cons_zero]at q2;have Qq:=hdq (show ∀w',Fr NoT w0 w'->ClS C W.heap.size (W.heap.size+1) nm (.agg #[.slice Ap np cp,.func (.func gB) #[] capsB]) w' from λw' hf=>⟨(T4.fr0 hf).cell 0,(Gq w' (Jc.trans hf)).p.cell 2,(T5.fr0 hf).cell 1,JK w' (Jc.trans hf)⟩);have JU:=hdq Gb;have gj:=hdq Q8;have Ki:=hdq HJ;have Zs:=hdq RL;have qP:=hdq QI;have HX:=hdq hx;have Wp:=hdq hX;have Sc:=hdq Gq;have ME:=hdq Fe;have HS:=hdq hS;have HD:=hdq hD;have HT:=hdq hT;have T1:=hdq Wo;have T3:=hdq T0;have Hv:=hdq He;have Pl:=hdq JP;have HN:=hdq hn;have HI:=hdq (aiq G0 (aiq Hy (aiq Fc Gw)));have Q7:=hdq Fa;have L0:=hdq GL;have LR:=hdq Ny;rw[Ny]at Pl;have Zr:=hdq (show W.heap.size+3 < w3.heap.size by have:=JP.bk.lt;omega);rw[<-hn];clear hx hX Gq Fe hS hD hT Wo T0 He JP hn G0 Hy Fc Gw Fa GL Ny HJ Gy JK Jc T4 T5 RL Q8 QI Gb;have J3:n<=9223372036854775807:=by omega
 go_enter Tryz.func111,Tryz.ntmps111;go_wp2_with fail;have Q8:=gj.out;unfold stW at Q8;rw[<-Q8];clear Q8;refine zad (ClS C W.heap.size (W.heap.size+1) nm (.agg #[.slice Ap np cp,.func (.func gB) #[] capsB])) (λi=>decide (i < 8)) (by kernel_rfl) (Qq _ (Fr.refl _ _).drew) (λhHeld=>?_);refine zaa 4 ?_;simp only[putsL];refine zax 0 (v:=?_) rfl (by kernel_rfl) (λ_ _ _ h=>h) hHeld (by rfl) ?_ ?_;rotate_left
 ·intro wz Hn;(try dsimp only[ClS,PmS]at Hn);go_simp;try with_reducible rfl
 try simp only[putsL]
 refine zaa 1 ?_;simp only[putsL];refine zaa 2 ?_;simp only[putsL];refine zax 3 (v:=?_) rfl (by kernel_rfl) (λ_ _ _ h=>h) hHeld (by rfl) ?_ ?_;rotate_left
 ·intro wz Hn;(try dsimp only[ClS,PmS]at Hn);go_simp;try with_reducible rfl
 try simp only[putsL]
 refine zax 5 (v:=?_) rfl (by kernel_rfl) (λ_ _ _ h=>h) hHeld (by rfl) ?_ ?_;rotate_left
 ·intro wz Hn;(try dsimp only[ClS,PmS]at Hn);go_simp;try with_reducible rfl
 try simp only[putsL]
 refine zax 6 (v:=?_) rfl (by kernel_rfl) (λ_ _ _ h=>h) hHeld (by rfl) ?_ ?_;rotate_left
 ·intro wz Hn;(try dsimp only[ClS,PmS]at Hn);go_simp;try with_reducible rfl
 try simp only[putsL]
 refine zab 7 rfl (by kernel_rfl) (λKK hK=>?_);go_simp;refine hK _ _ (λ_ _=>Qq _ ((Fr.refl _ _).drew.alloc _)) ?_;clear hK KK;try simp only[putsL]
 refine zab 8 rfl (by kernel_rfl) (λKK hK=>?_);go_simp;have hz:=Zs.out;rw[hz];rw[<-Ki.out];refine hK _ _ (λh=>absurd h (by decide)) ?_;clear hK KK hz hHeld;try simp only[putsL]
 refine zaf (by kernel_rfl) ?_;have Y9:=T3.lt;have zL:=T3.cell 2;simp only[bgStC,List.getElem?_toArray,List.getElem?_cons_succ,List.getElem?_cons_zero]at zL;go_wp2_with fail;rw[<-L0.out,LR.out];clear Y9 zL;go_wp2_with fail;go_loopw [19] (λi wr=>∃(k':Nat)(v:Value)(vs:List Value),k'<=n/\i= .int .i64 k'/\Hid (MkL C w2 wr (W.heap.size+3) 276 278 v vs (PVal C ps (xsV C.n ps args)))/\vs.length=k') (λi _=>n - (intOf i).toNat);case atStart=>exact⟨0,_,_,Nat.zero_le _,rfl,Pl,rfl⟩
 case round=>
  clear q2 Pl;obtain⟨k',v,vs,hk,rfl,HM,Jl⟩:=hrel;have LV:=hdq Jl;by_cases Hl:k' < n
  ·have Qw:k' < args.len:=by rw[<-HN.out];exact Hl
   obtain⟨b0,o0,rfl,Hh⟩:=HX.2.2 (by omega);obtain⟨k0,n0,m0,a0,t0,r0,LN⟩:=Exs.drop_cons Qw;have JN:=Hv.trans HM.fr;have Hm:=ExR.drop k' (ExR.keep (ME wr JN) Hh);rw[LN]at Hm;obtain⟨⟨Gh,_,_,GK,_,e0,e1,e2,e4⟩,⟨A1,c1,e3,s1⟩,_⟩:=Hm;obtain⟨l1,Fo⟩:=nmq a0.len;rw[<-Fo]at e3;have Sz:=zkF C.n ps k' args LN;have Hw:=Wp k' _ _ _ _ _ _ LN;have GD:(k':Int) < (n:Int):=by omega
   have Ll:b0 < wr.heap.size:=ltq (ltq (HS _ Gh) Q7.out) JN.size;obtain⟨w4,Fb⟩:=nmq (wr.alloc (.cells #[.int .u8 k0,.string n0,.int .i64 m0,.slice A1 l1 c1,.int .i64 t0] 175));have Hx:Fr NoT wr w4:=by rw[Fb];exact(Fr.refl _ _).alloc _
   have Ft:Bk w4 wr.heap.size 175 #[.int .u8 k0,.string n0,.int .i64 m0,.slice A1 l1 c1,.int .i64 t0]:=by rw[Fb];exact Bk.new _ _ _
   have F9:C.T<=w2.heap.size:=leq9 HT.out Hv.size;have GJ:=hdq F9;have Rb:=HM.fr0 PVal.st F9 Hx.drew;have J5:=hdq (show ∀w',Fr NoT w4 w'->PmS (W.heap.size+3) W.heap.size wr.heap.size (some ⟨C.P,0,none⟩) v (.int .u8 k0) (.string n0) (.int .i64 m0) (.slice A1 l1 c1) (.int .i64 t0) w' from λw' hf=>
    ⟨((HM.bk.fr0 Hx).fr0 hf).cell 0,(((T1.fr0 HM.fr).fr0 Hx).fr0 hf).cell 0,(Ft.fr0 hf).cell 0,(Ft.fr0 hf).cell 1,(Ft.fr0 hf).cell 2,(Ft.fr0 hf).cell 3,(Ft.fr0 hf).cell 4⟩)
   have P7:=hdq (show ∀w',Fr NoT w4 w'->_ from λw' hf=>Hw w' S Z A1 c1 (leq9 HT.out (JN.trans (Hx.trans hf)).size) (Sc w' (JN.trans (Hx.trans hf))) HS.out GK (s1.imp λ_ _ hx=>ExR.keep ((Hx.trans hf).same λb hb=>⟨ltq (ltq (HS b hb) Q7.out) JN.size,id⟩) hx));rw[<-Fo]at P7;have SA:=hdq Rb;have Nm:=hdq Fb;have Pv:=hdq Sz;clear Hh JN GK s1 Fo Sz Hw Fb Hx Ft Rb LN Qw F9 HM;go_wp2_with fail;rw[<-Nm.out];refine zad (PmS (W.heap.size+3) W.heap.size wr.heap.size (some ⟨C.P,0,none⟩) v (.int .u8 k0) (.string n0) (.int .i64 m0) (.slice A1 l1 c1) (.int .i64 t0)) (λi=>decide (i < 5)) (by kernel_rfl) (J5 _ (Fr.refl _ _).drew) (λhHeld=>?_);refine zac 0 (v:=?_) rfl (by kernel_rfl) (λ_ _ _ h=>h) hHeld (by rfl) ?_ ?_;rotate_left
   ·intro wz Hn;(try dsimp only[ClS,PmS]at Hn);go_simp;try with_reducible rfl
   try simp only[putsL]
   refine zac 1 (v:=?_) rfl (by kernel_rfl) (λ_ _ _ h=>h) hHeld (by rfl) ?_ ?_;rotate_left
   ·intro wz Hn;(try dsimp only[ClS,PmS]at Hn);go_simp;try with_reducible rfl
   try simp only[putsL]
   refine zac 2 (v:=?_) rfl (by kernel_rfl) (λ_ _ _ h=>h) hHeld (by rfl) ?_ ?_;rotate_left
   ·intro wz Hn;(try dsimp only[ClS,PmS]at Hn);go_simp;try with_reducible rfl
   try simp only[putsL]
   refine zab 3 rfl (by kernel_rfl) (λKK hK=>?_);go_simp;go_at_call 175;refine(P7 _ (Fr.refl NoT w4).drew).mono ?_;rintro _ w5 ⟨u,rfl,Hj,F4⟩;obtain⟨gg,cps,rfl⟩:=F4.func;have Gl:=hdq Hj;have TE:=hdq F4;have Nz:=hdq (J5 _ ((Fr.refl NoT w4).drew.trans Hj));clear Hj F4;try dsimp only
   refine hK _ _ (λ_ _=>Nz.out) ?_;clear hK KK;try simp only[putsL]
   refine zab 4 rfl (by kernel_rfl) (λKK hK=>?_);go_simp;obtain⟨w6,Fx⟩:=nmq (w5.alloc (.cells #[.func (.func gg) #[] cps] 278));rw[<-Fx];have Gt:Fr NoT w5 w6:=by rw[Fx];exact(Fr.refl _ _).alloc _
   have G5:Bk w6 w5.heap.size 278 #[.func (.func gg) #[] cps]:=by rw[Fx];exact Bk.new _ _ _
   have Mn:w6.heap.size=w5.heap.size+1:=by rw[Fx];simp
   have RK:=hdq (J5 _ (((Fr.refl NoT w4).drew.trans Gl.out).trans Gt));have MV:=(SA.fr0 PVal.st GJ.out Gl.out).fr0 PVal.st GJ.out Gt;have Kk:=hdq MV;have JL:=hdq G5;have Q4:=hdq Fx;have QH:=hdq Mn;clear Fx Gt G5 Mn MV;try dsimp only
   refine hK _ _ (λ_ _=>RK.out) ?_;clear hK KK;try simp only[putsL]
   refine zab 5 rfl (by kernel_rfl) (λKK hK=>?_);refine step_append_lies _ (by rfl) _ _ _ (by rfl) (W.heap.size+3+1) 278 i1 .nilFunc 1 8 Tryz.underlying276 HI.1 HI.2.1 HI.2.2.1 HI.2.2.2 rfl (by decide) v vs.length vs (by rfl) Kk.row
    ⟨w5.heap.size,0,none⟩ 1 1 [.func (.func gg) #[] cps] (by rfl) (by rfl) JL.newsK (by simp[Value.oneCell']) (by omega) ?c63 ?cby ?cba (w5.heap.size+1) QH.out ?_
   case c63=>have:=LV.out;unfold maxLen;omega
   case cby=>have:=LV.out;omega
   case cba=>have h1:=Kk.bk.lt;omega
   intro zK cap w7 Hb Hd GG Jd;have FH:=Hd;rw[Q4.out]at FH;have Gu:=SA.step PVal.st GJ.out Gl.out ⟨_,by rw[LV.out];exact Pv.out,TE.out⟩ Hb FH (by
    rcases GG with e|e
    ·exact .inl e.symm
    ·exact .inr (by rw[e];rfl))
   have FE:some (W.heap.size+3)≠v.ownBlock:=λe=>by have:=Kk.row.lt _ e.symm;omega
   have f7:=(Hd.frozen_far ⟨W.heap.size+3,0,none⟩ Kk.bk.lt FE).trans (Kk.bk.frozen 0);have c7:=(Hd.cell_far ⟨W.heap.size+3,0,none⟩ Kk.bk.lt FE).trans (Kk.bk.cell 0);have l7:W.heap.size+3 < w7.heap.size:=ltq Kk.bk.lt Hd.size;have Gi:=hdq Gu;simp only[getsL]at c7;clear Hb Hd FH GG Gu FE hHeld;try dsimp only
   refine hK _ _ (λh=>absurd h (by decide)) ?_;clear hK KK;try simp only[putsL]
   refine zab 6 rfl (by kernel_rfl) (λKK hK=>?_);go_simp;refine hK _ _ (λh=>absurd h (by decide)) ?_;clear hK KK;try simp only[putsL]
   refine zaf (by kernel_rfl) ?_;clear c7 f7 l7 e0 e1 e2 e3 e4;go_wp2_with fail;go_roundw;case rel=>exact⟨k'+1,_,_,by omega,by go_num,hdq (by have h9:=Gi.out;rw[LV.out]at h9;exact h9),by rw[List.length_append,LV.out];rfl⟩
   case measure=>simp[intOf];omega
  ·have Fz:¬(k':Int) < (n:Int):=by omega
   obtain⟨A,c,rfl,Hz⟩:=HM.rowF;have JN:=Hv.trans HM.fr;have F7:vs.length=n:=by omega
   have h2:=Hv.size;have hr:=HD wr (W.heap.size+3) A c vs JN ⟨T1.fr0 HM.fr,lrq _,(T1.fr0 HM.fr).lt⟩ (by rw[<-HN.out];exact⟨T3.fr0 HM.fr,Nat.le_succ _,(T3.fr0 HM.fr).lt⟩) ⟨JU.fr0 HM.fr,by omega,(JU.fr0 HM.fr).lt⟩ (by rw[<-HN.out,<-F7];exact⟨HM.bk,by omega,HM.bk.lt⟩) ⟨Hz.1,Hz.2.1,λhp=>by
     obtain⟨b,e,g1,g2,g3⟩:=Hz.2.2 hp;exact⟨b,e,leq9 h2 g1,g2,g3⟩⟩ (by rw[F7];exact HN.out) (λi u X hu hX=>by
     obtain⟨lo,hi,⟨X',e,hv⟩,g1,g2,_⟩:=HM.vals i u hu;rw[hX]at e;obtain rfl:=Option.some.inj e;exact hv.wide (leq9 h2 g1) g2)
   have HR:=hdq (show MkD C ps D W _ wr from⟨_,rfl,JN,hr⟩);clear hr Hz JN HM F7 h2;go_wp2_with fail;go_ret;exact HR.out
def PrAt (C:BgC)(kn:List UInt8->Prop)(w:World):Prop:=∃N f,MpV w C.MP N f/\∀nm p,kn nm->C.n.procs nm=some p->
 ∃Ap cp vb S Z,f nm=some (.agg #[.slice Ap p.params.length cp,vb])/\DoP C (p.params.map (·.nm.data.toList)) vb (RunT C.n (.all (p.params.map (·.nm.data.toList)) p.body)) 0 0 w/\SlR (VaR w S Z p.params) p.params.length 24 Ap cp/\(∀b,S b->b < C.B)/\(∀x∈p.params,x.nm.size<=9223372036854775807)/\(p.params.map (·.nm.data.toList)).Nodup /\∀nm∈p.params.map (·.nm.data.toList),posI C.n.vars nm=none
theorem PrAt.fr0 {C:BgC}{kn:List UInt8->Prop}{w w':World}(h:PrAt C kn w)(ho:C.Ok)(hT:C.T<=w.heap.size)(hf:Fr NoT w w'):PrAt C kn w':=by
 obtain⟨N,f,h1,h2⟩:=h;refine⟨N,f,h1.fr hf id,λnm p hk hp=>?_⟩;obtain⟨Ap,cp,vb,S,Z,g1,g2,g3,g4,g5⟩:=h2 nm p hk hp;have qQ:C.B<=C.T:=by have h1:=ho.br;have h2:=ho.rT;omega
 exact⟨Ap,cp,vb,S,Z,g1,g2.later (Later.of0 hf (Nat.zero_le _) hT),g3.imp λ_ _ hx=>VaR.keep (hf.same λb hb=>⟨ltq (g4 b hb) (leq9 qQ hT),id⟩) hx,g4,g5⟩
def dsS (n:Bn)(ps:List (List UInt8)):Sts->List DoR
 | .nil => []
 | .cons k nm args cond body els at_ r=>RunT n (.one ps k nm args cond body els at_)::dsS n ps r
theorem zkH (n:Bn)(ps:List (List UInt8)):∀xs,(dsS n ps xs).length =xs.len
 | .nil =>rfl
 | .cons _ _ _ _ _ _ _ r=>by simp only[dsS,Sts.len,List.length_cons,zkH n ps r]
theorem zm3 (n:Bn)(ps:List (List UInt8)):∀(i:Nat)(xs:Sts) {k nm a c b e t r},Sts.drop i xs= .cons k nm a c b e t r->(dsS n ps xs)[i]?=some (RunT n (.one ps k nm a c b e t))
 |0,.cons _ _ _ _ _ _ _ _,_,_,_,_,_,_,_,_,h=>by
  simp only[Sts.drop,Sts.cons.injEq]at h;obtain⟨rfl,rfl,rfl,rfl,rfl,rfl,rfl,_⟩:=h;rfl
 |0,.nil,_,_,_,_,_,_,_,_,h=>by simp[Sts.drop]at h
 |i+1,.nil,_,_,_,_,_,_,_,_,h=>by simp[Sts.drop]at h
 |i+1,.cons _ _ _ _ _ _ _ r,_,_,_,_,_,_,_,_,h=>by
  simp only[Sts.drop]at h;simpa[dsS]using zm3 n ps i r h
theorem zhR (n:Bn)(ps:List (List UInt8)):∀xs,∀D∈dsS n ps xs,∀s h t,D s h t->t.left<=s.left
 | .nil,D,hD,_,_,_,_=>by simp[dsS]at hD
 | .cons k nm args cond body els at_ r,D,hD,s,h,t,hr=>by
  simp only[dsS,List.mem_cons]at hD;rcases hD with rfl|hD
  ·exact RunT.left_le hr
  ·exact zhR n ps r D hD s h t hr
theorem zkI {n:Bn}{ps:List (List UInt8)}:∀(xs:Sts) {s h t},RunT n (.all ps xs) s h t->seqD (dsS n ps xs) s h t
 | .nil,s,h,t,hr=>by cases hr;exact⟨rfl,rfl⟩
 | .cons _ _ _ _ _ _ _ r,s,h,t,hr=>by
  cases hr with
  |next h1 h2=>exact .inr ⟨_,h1,zkI r h2⟩
  |stop h1=>exact .inl ⟨_,rfl,h1⟩
theorem DoP.to {C:BgC}{ps:List (List UInt8)}{val:Value}{D D':DoR}{lo hi:Nat}{w:World}(h:DoP C ps val D lo hi w)(hD:∀s h t,D' s h t->D s h t):DoP C ps val D' lo hi w:=by
 obtain⟨g,caps,h1,h2,h3⟩:=h;exact⟨g,caps,h1,h2,λW oc nb s h t hr hd=>h3 W oc nb s h t hr (hD _ _ _ hd)⟩
theorem DoP.func {C:BgC}{ps:List (List UInt8)}{val:Value}{D:DoR}{lo hi:Nat}{w:World}(h:DoP C ps val D lo hi w):∃g caps,val= .func (.func g) #[] caps:=by
 obtain⟨g,caps,e,_⟩:=h;exact⟨g,caps,e⟩
def PDo (C:BgC)(ps:List (List UInt8))(Ds:List DoR):RowP:=λi v lo hi w=>∃D,Ds[i]?=some D/\DoP C ps v D lo hi w
theorem PDo.st {C:BgC}{ps:List (List UInt8)}{Ds:List DoR}:RwS C (PDo C ps Ds):=λi v lo hi w w' hl h=>by
 obtain⟨D,h1,h2⟩:=h;exact⟨D,h1,h2.later hl⟩
def OneC (C:BgC)(kn:List UInt8->Prop)(ps:List (List UInt8))(k:Int)(nm:ByteArray)(args:Exs)(cond:Cds)(body els:Sts)(at_:Int):Prop:=
 ∀(W:World)(S:Nat->Prop)(Z:Prop)(A2 A3 A4 A5:Option Addr)(c2 c3 c4 c5:Nat),C.T<=W.heap.size->PgAt C W->PrAt C kn W->(∀x,S x->x < C.B)->SlR (λb o=>ExR W S Z args b o) args.len 64 A2 c2->SlR (λb o=>CdR W S Z cond b o) cond.len 64 A3 c3->SlR (λb o=>StR W S Z body b o) body.len 128 A4 c4->SlR (λb o=>StR W S Z els b o) els.len 128 A5 c5->
  Calls Tryz.prog 54 #[.pointer (some ⟨C.P,0,none⟩),.agg (bgStC k nm A2 A3 A4 A5 args.len c2 cond.len c3 body.len c4 els.len c5 at_)] W (MkD C ps (RunT C.n (.one ps k nm args cond body els at_)) W)
def zgA (C:BgC)(kn:List UInt8->Prop)(ps:List (List UInt8))(xs:Sts):Prop:=
 ∀(W:World)(S:Nat->Prop)(Z:Prop)(A:Option Addr)(c:Nat),C.T<=W.heap.size->PgAt C W->PrAt C kn W->(∀x,S x->x < C.B)->SlR (λb o=>StR W S Z xs b o) xs.len 128 A c->
  Calls Tryz.prog 23 #[.pointer (some ⟨C.P,0,none⟩),.slice A xs.len c] W (MkD C ps (RunT C.n (.all ps xs)) W)
def PaS (g b:Nat)(v v0 v1 v2 v3 v4 v5 v6:Value)(W:World):Prop:=W.cell? ⟨g,0,none⟩=some v/\W.cell? ⟨b,0,none⟩=some v0/\W.cell? ⟨b,1,none⟩=some v1/\W.cell? ⟨b,2,none⟩=some v2/\W.cell? ⟨b,3,none⟩=some v3/\W.cell? ⟨b,4,none⟩=some v4/\W.cell? ⟨b,5,none⟩=some v5/\W.cell? ⟨b,6,none⟩=some v6
theorem zkJ:(Tryz.prog.info? 80).map (λi=>(i.zero,i.size,i.bytes))=some (some .nilFunc,1,8):=by kernel_rfl
theorem zfG (C:BgC)(kn:List UInt8->Prop)(ps:List (List UInt8))(ho:C.Ok)(xs:Sts)(hX:∀i k nm a cd b e t r,Sts.drop i xs= .cons k nm a cd b e t r->OneC C kn ps k nm a cd b e t):zgA C kn ps xs:=by
 intro W S Z A c hT Gy Kf hS hx;obtain⟨i1,G0,Hy,Fc,Gw⟩:=info_parts zkJ;obtain⟨n,hn⟩:=nmq xs.len;have Jp:n*128<=140737488355328:=by rw[hn];exact hx.2.1.2
 have Fa:C.B<=W.heap.size:=by have h1:=ho.br;have h2:=ho.rT;omega
 have Gq:∀w',Fr NoT W w'->PgAt C w':=λw' hf=>Gy.later ho (Later.of0 (lo:=0) (hi:=0) hf (Nat.zero_le _) hT);have Pw:∀w',Fr NoT W w'->PrAt C kn w':=λw' hf=>Kf.fr0 ho hT hf;have Fe:∀w',Fr NoT W w'->SameS S W w':=λw' hf=>hf.same λb hb=>⟨ltq (hS b hb) Fa,id⟩;obtain⟨w3,GL⟩:=nmq (W.alloc (.cells #[.slice none 0 0] 147));have JP:MkL C W w3 W.heap.size 147 80 (.slice none 0 0) [] (PDo C ps (dsS C.n ps xs)):=MkL.zero (by rw[GL];exact(Fr.refl _ _).alloc _) (lrq _) (by rw[GL];exact Bk.new _ _ _);have HX:=hdq hx;have Wp:=hdq hX;have Sc:=hdq Gq;have qR:=hdq Pw;have ME:=hdq Fe;have HS:=hdq hS;have HT:=hdq hT;have Pl:=hdq JP;have HN:=hdq hn;have HI:=hdq (aiq G0 (aiq Hy (aiq Fc Gw)));have Q7:=hdq Fa;have L0:=hdq GL;have HO:=hdq ho;rw[<-hn];clear hx hX Gq Pw Fe hS hT JP hn G0 Hy Fc Gw Fa GL Gy Kf ho;have J3:n<=9223372036854775807:=by omega
 go_enter Tryz.func23,Tryz.ntmps23;go_wp2_with fail;rw[<-L0.out];go_loopw [10] (λi wr=>∃(k':Nat)(v:Value)(vs:List Value),k'<=n/\i= .int .i64 k'/\Hid (MkL C W wr W.heap.size 147 80 v vs (PDo C ps (dsS C.n ps xs)))/\vs.length=k') (λi _=>n - (intOf i).toNat);case atStart=>exact⟨0,_,_,Nat.zero_le _,rfl,Pl,rfl⟩
 case round=>
  clear Pl;obtain⟨k',v,vs,hk,rfl,HM,Jl⟩:=hrel;have LV:=hdq Jl;by_cases Hl:k' < n
  ·have Qw:k' < xs.len:=by rw[<-HN.out];exact Hl
   obtain⟨b0,o0,rfl,Hh⟩:=HX.2.2 (by omega);obtain⟨k0,n0,a0,d0,y0,z0,t0,r0,LN⟩:=Sts.drop_cons Qw;have JN:=HM.fr;have Hm:=StR.drop k' (StR.keep (ME wr JN) Hh);rw[LN]at Hm;obtain⟨⟨Gh,_,_,_,e0,e1,e6⟩,⟨A2,c2,e2,s2⟩,⟨A3,c3,e3,s3⟩,⟨A4,c4,e4,s4⟩,⟨A5,c5,e5,s5⟩,_⟩:=Hm;obtain⟨l2,Fp⟩:=nmq a0.len;obtain⟨l3,Jx⟩:=nmq d0.len;obtain⟨l4,Ku⟩:=nmq y0.len;obtain⟨l5,Jf⟩:=nmq z0.len;rw[<-Fp]at e2;rw[<-Jx]at e3;rw[<-Ku]at e4;rw[<-Jf]at e5;have Sz:=zm3 C.n ps k' xs LN;have Hw:=Wp k' _ _ _ _ _ _ _ _ LN;have GD:(k':Int) < (n:Int):=by omega
   have Ll:b0 < wr.heap.size:=ltq (ltq (HS _ Gh) Q7.out) JN.size;obtain⟨w4,Fb⟩:=nmq (wr.alloc (.cells #[.int .u8 k0,.string n0,.slice A2 l2 c2,.slice A3 l3 c3,.slice A4 l4 c4,.slice A5 l5 c5,.int .i64 t0] 51));have Hx:Fr NoT wr w4:=by rw[Fb];exact(Fr.refl _ _).alloc _
   have Ft:Bk w4 wr.heap.size 51 #[.int .u8 k0,.string n0,.slice A2 l2 c2,.slice A3 l3 c3,.slice A4 l4 c4,.slice A5 l5 c5,.int .i64 t0]:=by rw[Fb];exact Bk.new _ _ _
   have Rb:=HM.fr0 PDo.st HT.out Hx.drew;have J5:=hdq (show ∀w',Fr NoT w4 w'->PaS W.heap.size wr.heap.size v (.int .u8 k0) (.string n0) (.slice A2 l2 c2) (.slice A3 l3 c3) (.slice A4 l4 c4) (.slice A5 l5 c5) (.int .i64 t0) w' from λw' hf=>
    ⟨((HM.bk.fr0 Hx).fr0 hf).cell 0,(Ft.fr0 hf).cell 0,(Ft.fr0 hf).cell 1,(Ft.fr0 hf).cell 2,(Ft.fr0 hf).cell 3,(Ft.fr0 hf).cell 4,(Ft.fr0 hf).cell 5,(Ft.fr0 hf).cell 6⟩)
   have P7:=hdq (show ∀w',Fr NoT w4 w'->_ from λw' hf=>
    have NG:SameS S wr w':=(Hx.trans hf).same λb hb=>⟨ltq (ltq (HS b hb) Q7.out) JN.size,id⟩
    Hw w' S Z A2 A3 A4 A5 c2 c3 c4 c5 (leq9 HT.out (JN.trans (Hx.trans hf)).size) (Sc w' (JN.trans (Hx.trans hf))) (qR w' (JN.trans (Hx.trans hf))) HS.out (s2.imp λ_ _ hx=>ExR.keep NG hx) (s3.imp λ_ _ hx=>CdR.keep NG hx) (s4.imp λ_ _ hx=>StR.keep NG hx) (s5.imp λ_ _ hx=>StR.keep NG hx))
   rw[<-Fp,<-Jx,<-Ku,<-Jf]at P7;have SA:=hdq Rb;have Nm:=hdq Fb;have Pv:=hdq Sz;clear Hh JN s2 s3 s4 s5 Fp Jx Ku Jf Sz Hw Fb Hx Ft Rb LN Qw HM;go_wp2_with fail;rw[<-Nm.out];refine zad (PaS W.heap.size wr.heap.size v (.int .u8 k0) (.string n0) (.slice A2 l2 c2) (.slice A3 l3 c3) (.slice A4 l4 c4) (.slice A5 l5 c5) (.int .i64 t0)) (λi=>decide (i < 5)) (by kernel_rfl) (J5 _ (Fr.refl _ _).drew) (λhHeld=>?_);refine zaa 1 ?_;simp only[putsL];refine zai 0 hHeld ?_;simp only[putsL];refine zai 2 hHeld ?_;simp only[putsL];refine zab 3 rfl (by kernel_rfl) (λKK hK=>?_);go_simp;go_at_call 54;refine(P7 _ (Fr.refl NoT w4).drew).mono ?_;rintro _ w5 ⟨u,rfl,Hj,F4⟩;obtain⟨gg,cps,rfl⟩:=F4.func;have Gl:=hdq Hj;have TE:=hdq F4;have Nz:=hdq (J5 _ ((Fr.refl NoT w4).drew.trans Hj));clear Hj F4;try dsimp only
   refine hK _ _ (λ_ _=>Nz.out) ?_;clear hK KK;try simp only[putsL]
   refine zab 4 rfl (by kernel_rfl) (λKK hK=>?_);go_simp;obtain⟨w6,Fx⟩:=nmq (w5.alloc (.cells #[.func (.func gg) #[] cps] 80));rw[<-Fx];have Gt:Fr NoT w5 w6:=by rw[Fx];exact(Fr.refl _ _).alloc _
   have G5:Bk w6 w5.heap.size 80 #[.func (.func gg) #[] cps]:=by rw[Fx];exact Bk.new _ _ _
   have Mn:w6.heap.size=w5.heap.size+1:=by rw[Fx];simp
   have RK:=hdq (J5 _ (((Fr.refl NoT w4).drew.trans Gl.out).trans Gt));have MV:=(SA.fr0 PDo.st HT.out Gl.out).fr0 PDo.st HT.out Gt;have Kk:=hdq MV;have JL:=hdq G5;have Q4:=hdq Fx;have QH:=hdq Mn;clear Fx Gt G5 Mn MV;try dsimp only
   refine hK _ _ (λ_ _=>RK.out) ?_;clear hK KK;try simp only[putsL]
   refine zab 5 rfl (by kernel_rfl) (λKK hK=>?_);refine step_append_lies _ (by rfl) _ _ _ (by rfl) (W.heap.size+1) 80 i1 .nilFunc 1 8 Tryz.underlying147 HI.1 HI.2.1 HI.2.2.1 HI.2.2.2 rfl (by decide) v vs.length vs (by rfl) Kk.row
    ⟨w5.heap.size,0,none⟩ 1 1 [.func (.func gg) #[] cps] (by rfl) (by rfl) JL.newsK (by simp[Value.oneCell']) (by omega) ?c63 ?cby ?cba (w5.heap.size+1) QH.out ?_
   case c63=>have:=LV.out;unfold maxLen;omega
   case cby=>have:=LV.out;omega
   case cba=>have h1:=Kk.bk.lt;omega
   intro zK cap w7 Hb Hd GG Jd;have FH:=Hd;rw[Q4.out]at FH;have Gu:=SA.step PDo.st HT.out Gl.out ⟨_,by rw[LV.out];exact Pv.out,TE.out⟩ Hb FH (by
    rcases GG with e|e
    ·exact .inl e.symm
    ·exact .inr (by rw[e];rfl))
   have FE:some W.heap.size≠v.ownBlock:=λe=>by have:=Kk.row.lt _ e.symm;omega
   have f7:=(Hd.frozen_far ⟨W.heap.size,0,none⟩ Kk.bk.lt FE).trans (Kk.bk.frozen 0);have c7:=(Hd.cell_far ⟨W.heap.size,0,none⟩ Kk.bk.lt FE).trans (Kk.bk.cell 0);have l7:W.heap.size < w7.heap.size:=ltq Kk.bk.lt Hd.size;have Gi:=hdq Gu;simp only[getsL]at c7;clear Hb Hd FH GG Gu FE hHeld;try dsimp only
   refine hK _ _ (λh=>absurd h (by decide)) ?_;clear hK KK;try simp only[putsL]
   refine zab 6 rfl (by kernel_rfl) (λKK hK=>?_);go_simp;refine hK _ _ (λh=>absurd h (by decide)) ?_;clear hK KK;try simp only[putsL]
   refine zaf (by kernel_rfl) ?_;clear c7 f7 l7 e0 e1 e2 e3 e4 e5 e6;go_wp2_with fail;go_roundw;case rel=>exact⟨k'+1,_,_,by omega,by go_num,hdq (by have h9:=Gi.out;rw[LV.out]at h9;exact h9),by rw[List.length_append,LV.out];rfl⟩
   case measure=>simp[intOf];omega
  ·have Fz:¬(k':Int) < (n:Int):=by omega
   obtain⟨A9,c9,rfl,Hz⟩:=HM.rowF;have JN:=HM.fr;have F7:vs.length=n:=by omega
   have hlen:vs.length=(dsS C.n ps xs).length :=by rw[zkH,F7];exact HN.out
   have hd:=all_1 (ps:=ps) HO.out HT.out ⟨HM.bk,lrq _,HM.bk.lt⟩ Hz hlen (λi u D hu hD=>by
     obtain⟨lo,hi,⟨D',e,hv⟩,g1,g2,_⟩:=HM.vals i u hu;rw[hD]at e;obtain rfl:=Option.some.inj e;exact hv.wide g1 g2) (zhR C.n ps xs)
   have HR:=hdq (show MkD C ps (RunT C.n (.all ps xs)) W _ wr from⟨_,rfl,JN,hd.to λs h t hr=>zkI xs hr⟩);clear hd Hz JN HM F7 hlen;go_wp2_with fail;go_ret;exact HR.out
