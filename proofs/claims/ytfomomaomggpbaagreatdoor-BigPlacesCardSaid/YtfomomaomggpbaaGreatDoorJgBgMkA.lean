/- big. -/
import Derived.Test.YtfomomaomggpbaaGreatDoorBgCal
set_option linter.all false
set_option maxHeartbeats 3200000
set_option maxRecDepth 100000
namespace Go.Proofs.YtfomomaomggpbaaGreatDoor
open Go.RowKit Go.Shelf
def xsV (n:Bn)(ps:List (List UInt8)):Exs->List (Bs->Ho ⊕ Int)
 | .nil => []
 | .cons k nm m a t r=>valH n ps k nm m t a::xsV n ps r
theorem zhP (n:Bn)(ps:List (List UInt8)):∀xs,(xsV n ps xs).length =xs.len
 | .nil =>rfl
 | .cons _ _ _ _ _ r=>by simp only[xsV,Exs.len,List.length_cons,zhP n ps r]
theorem zlJ (n:Bn)(ps:List (List UInt8)):∀(i:Nat)(xs:Exs) {k nm m a t r},Exs.drop i xs= .cons k nm m a t r->(xsV n ps xs)[i]?=some (valH n ps k nm m t a)
 |0,.cons _ _ _ _ _ _,_,_,_,_,_,_,h=>by
  simp only[Exs.drop,Exs.cons.injEq]at h;obtain⟨rfl,rfl,rfl,rfl,rfl,_⟩:=h;rfl
 |0,.nil,_,_,_,_,_,_,h=>by simp[Exs.drop]at h
 |i+1,.nil,_,_,_,_,_,_,h=>by simp[Exs.drop]at h
 |i+1,.cons _ _ _ _ _ r,_,_,_,_,_,_,h=>by
  simp only[Exs.drop]at h;simpa[xsV]using zlJ n ps i r h
def PVal (C:BgC)(ps:List (List UInt8))(Xs:List (Bs->Ho ⊕ Int)):RowP:=λi v lo hi w=>∃X,Xs[i]?=some X/\ValP C ps v X lo hi w
theorem PVal.st {C:BgC}{ps:List (List UInt8)}{Xs:List (Bs->Ho ⊕ Int)}:RwS C (PVal C ps Xs):=λi v lo hi w w' hl h=>by
 obtain⟨X,h1,h2⟩:=h;exact⟨X,h1,h2.later hl⟩
def PmS (g p b:Nat)(P:Option Addr)(v v0 v1 v2 v3 v4:Value)(W:World):Prop:=W.cell? ⟨g,0,none⟩=some v/\W.cell? ⟨p,0,none⟩=some (.pointer P)/\W.cell? ⟨b,0,none⟩=some v0/\W.cell? ⟨b,1,none⟩=some v1/\W.cell? ⟨b,2,none⟩=some v2/\W.cell? ⟨b,3,none⟩=some v3/\W.cell? ⟨b,4,none⟩=some v4
theorem ziz:(Tryz.prog.info? 278).map (λi=>(i.zero,i.size,i.bytes))=some (some .nilFunc,1,8):=by kernel_rfl
abbrev stW (W:World)(C:BgC)(k:Int)(nm:ByteArray)(A2 A3 A4 A5:Option Addr)(l2 c2 l3 c3 l4 c4 l5 c5:Nat)(at_:Int):World:=(W.alloc (.cells #[.pointer (some ⟨C.P,0,none⟩)] 69)).alloc (.cells (bgStC k nm A2 A3 A4 A5 l2 c2 l3 c3 l4 c4 l5 c5 at_) 51)
def MkD (C:BgC)(ps:List (List UInt8))(D:DoR)(W:World)(e:Ending)(w':World):Prop:=∃val,e= .returned val/\Fr NoT W w'/\DoP C ps val D W.heap.size w'.heap.size w'
theorem Bk.newsK {w:World}{g:Nat}{t:TypeId}{u:Value}(h:Bk w g t #[u]):∀j x,([u]:List Value)[j]?=some x->w.cell? ((⟨g,0,none⟩:Addr).add j)=some x:=World.news_of_block (cs:= #[u]) (fr:=(0,0)) (t:=t) h
theorem zga (C:BgC)(ps:List (List UInt8))(ho:C.Ok)(k:Int)(nm:ByteArray)(args:Exs)(at_:Int)(hX:∀i k0 n0 m0 a0 t0 r0,Exs.drop i args= .cons k0 n0 m0 a0 t0 r0->ExpC C ps k0 n0 m0 a0 t0)(D:DoR)(W:World)(S:Nat->Prop)(Z:Prop)(A2 A3 A4 A5:Option Addr)(c2 l3 c3 l4 c4 l5 c5:Nat)(hT:C.T<=W.heap.size)(GE:PgAt C W)(hS:∀x,S x->x < C.B)(hx:SlR (λb o=>ExR W S Z args b o) args.len 64 A2 c2)
  (hD:∀w' x A c vs,Fr NoT W w'->Bx W.heap.size w'.heap.size w' W.heap.size 69 #[.pointer (some ⟨C.P,0,none⟩)]->Bx W.heap.size w'.heap.size w' (W.heap.size+1) 51 (bgStC k nm A2 A3 A4 A5 args.len c2 l3 c3 l4 c4 l5 c5 at_)->Bx W.heap.size w'.heap.size w' x 276 #[.slice A args.len c]->RowF W.heap.size w'.heap.size w' A c vs->vs.length=args.len->
   (∀(i:Nat) u X,vs[i]?=some u->(xsV C.n ps args)[i]?=some X->ValP C ps u X W.heap.size w'.heap.size w')->DoP C ps (.func (.func 176) #[] #[.pointer (some ⟨W.heap.size,0,none⟩),.pointer (some ⟨W.heap.size+1,0,none⟩),.pointer (some ⟨x,0,none⟩)]) D W.heap.size w'.heap.size w'):
  Calls Tryz.prog 105 #[.pointer (some ⟨C.P,0,none⟩),.agg (bgStC k nm A2 A3 A4 A5 args.len c2 l3 c3 l4 c4 l5 c5 at_)] W (MkD C ps D W):=by
 obtain⟨i1,Fd,Hw,GV,Gz⟩:=info_parts ziz;obtain⟨n,hn⟩:=aF args.len;have Jt:n*64<=140737488355328:=by rw[hn];exact hx.2.1.2
 have Fu:C.B<=W.heap.size:=by have h1:=ho.br;have h2:=ho.rT;omega
 have Gt:∀w',Fr NoT W w'->PgAt C w':=λw' hf=>GE.later ho (Later.of0 (lo:=0) (hi:=0) hf (Nat.zero_le _) hT);have Fx:∀w',Fr NoT W w'->SameS S W w':=λw' hf=>hf.same λb hb=>⟨aM (hS b hb) Fu,id⟩;obtain⟨w2,Gc⟩:=aF (stW W C k nm A2 A3 A4 A5 n c2 l3 c3 l4 c4 l5 c5 at_);have He:Fr NoT W w2:=by rw[Gc];exact(aH.alloc _).alloc _
 have Xd:Bk w2 W.heap.size 69 #[.pointer (some ⟨C.P,0,none⟩)]:=by rw[Gc];exact(Bk.new _ _ _).alloc _
 have UE:Bk w2 (W.heap.size+1) 51 (bgStC k nm A2 A3 A4 A5 n c2 l3 c3 l4 c4 l5 c5 at_):=by rw[Gc];exact Bk.new_at _ _ _ (by simp)
 have M9:w2.heap.size=W.heap.size+2:=by rw[Gc];simp
 obtain⟨w3,GR⟩:=aF (w2.alloc (.cells #[.slice none 0 0] 276));have JU:MkL C w2 w3 w2.heap.size 276 278 (.slice none 0 0) [] (PVal C ps (xsV C.n ps args)):=MkL.zero (by rw[GR];exact aH.alloc _) (aL _) (by rw[GR];exact Bk.new _ _ _);have q2:=(UE.fr0 JU.fr).cell 2;simp only[bgStC,List.getElem?_toArray,List.getElem?_cons_succ,List.getElem?_cons_zero]at q2;have HX:=aA hx;have Xe:=aA hX;have ST:=aA Gt;have MS:=aA Fx;have HS:=aA hS;have HD:=aA hD;have HT:=aA hT;have UF:=aA Xd;have UG:=aA UE;have Hu:=aA He;have PI:=aA JU;have HN:=aA hn;have HI:=aA (aG Fd (aG Hw (aG GV Gz)));have RH:=aA Fu;unfold stW at Gc;rw[Gc]at GR;have LT:=aA GR;have MB:=aA M9;rw[M9]at PI;have gu:=aA (show W.heap.size+2 < w3.heap.size by have:=JU.bk.lt;omega);rw[<-hn];clear hx hX Gt Fx hS hD hT Xd UE He JU hn Fd Hw GV Gz Fu GR M9 Gc GE;have FW:n<=9223372036854775807:=by omega
 go_enter Tryz.func105,Tryz.ntmps105;go_wp2_with fail;rw[<-LT.out];go_wp2_with fail;go_loopw [11] (λi wr=>∃(k':Nat)(v:Value)(vs:List Value),k'<=n/\i= .int .i64 k'/\Hid (MkL C w2 wr (W.heap.size+2) 276 278 v vs (PVal C ps (xsV C.n ps args)))/\vs.length=k') (λi _=>n - (intOf i).toNat);case atStart=>exact⟨0,_,_,Nat.zero_le _,rfl,PI,rfl⟩
 case round=>
  clear q2 PI;obtain⟨k',v,vs,hk,rfl,HM,Jx⟩:=hrel;have Mc:=aA Jx;by_cases Hk:k' < n
  ·have Q3:k' < args.len:=by rw[<-HN.out];exact Hk
   obtain⟨b0,o0,rfl,Hg⟩:=HX.2.2 (by omega);obtain⟨k0,n0,m0,a0,t0,r0,L9⟩:=Exs.drop_cons Q3;have J7:=Hu.trans HM.fr;have Hq:=ExR.drop k' (ExR.keep (MS wr J7) Hg);rw[L9]at Hq;obtain⟨⟨Gn,_,_,GW,_,e0,e1,e2,e4⟩,⟨A1,c1,e3,s1⟩,_⟩:=Hq;obtain⟨l1,Fw⟩:=aF a0.len;rw[<-Fw]at e3;have Tf:=zlJ C.n ps k' args L9;have H9:=Xe k' _ _ _ _ _ _ L9;have Gj:(k':Int) < (n:Int):=by omega
   have JS:b0 < wr.heap.size:=aM (aM (HS _ Gn) RH.out) J7.size;obtain⟨w4,Fv⟩:=aF (wr.alloc (.cells #[.int .u8 k0,.string n0,.int .i64 m0,.slice A1 l1 c1,.int .i64 t0] 175));have HJ:Fr NoT wr w4:=by rw[Fv];exact aH.alloc _
   have Fq:Bk w4 wr.heap.size 175 #[.int .u8 k0,.string n0,.int .i64 m0,.slice A1 l1 c1,.int .i64 t0]:=by rw[Fv];exact Bk.new _ _ _
   have Jl:C.T<=w2.heap.size:=aK HT.out Hu.size;have GU:=aA Jl;have PO:=HM.fr0 PVal.st Jl HJ.drew;have Kp:=aA (show ∀w',Fr NoT w4 w'->PmS (W.heap.size+2) W.heap.size wr.heap.size (some ⟨C.P,0,none⟩) v (.int .u8 k0) (.string n0) (.int .i64 m0) (.slice A1 l1 c1) (.int .i64 t0) w' from λw' hf=>
    ⟨((HM.bk.fr0 HJ).fr0 hf).cell 0,(((UF.fr0 HM.fr).fr0 HJ).fr0 hf).cell 0,(Fq.fr0 hf).cell 0,(Fq.fr0 hf).cell 1,(Fq.fr0 hf).cell 2,(Fq.fr0 hf).cell 3,(Fq.fr0 hf).cell 4⟩)
   have Q0:=aA (show ∀w',Fr NoT w4 w'->_ from λw' hf=>H9 w' S Z A1 c1 (aK HT.out (J7.trans (HJ.trans hf)).size) (ST w' (J7.trans (HJ.trans hf))) HS.out GW (s1.imp λ_ _ hx=>ExR.keep ((HJ.trans hf).same λb hb=>⟨aM (aM (HS b hb) RH.out) J7.size,id⟩) hx));rw[<-Fw]at Q0;have Tg:=aA PO;have NP:=aA Fv;have PW:=aA Tf;clear Hg J7 GW s1 Fw Tf H9 Fv HJ Fq PO L9 Q3 Jl HM;go_wp2_with fail;rw[<-NP.out];refine zad (PmS (W.heap.size+2) W.heap.size wr.heap.size (some ⟨C.P,0,none⟩) v (.int .u8 k0) (.string n0) (.int .i64 m0) (.slice A1 l1 c1) (.int .i64 t0)) (λi=>decide (i < 5)) (by kernel_rfl) (Kp _ aH.drew) (λaC=>?_);refine zac 0 aC ?_;simp only[aB];refine zac 1 aC ?_;simp only[aB];refine zac 2 aC ?_;simp only[aB];refine zab 3 rfl (by kernel_rfl) (λKK hK=>?_);go_simp;go_at_call 175;refine(Q0 _ (Fr.refl NoT w4).drew).mono ?_;rintro _ w5 ⟨u,rfl,Hm,Jf⟩;obtain⟨gg,cps,rfl⟩:=Jf.func;have Gk:=aA Hm;have T5:=aA Jf;have NQ:=aA (Kp _ ((Fr.refl NoT w4).drew.trans Hm));clear Hm Jf;try dsimp only
   refine hK _ _ (λ_ _=>NQ.out) ?_;clear hK KK;try simp only[aB]
   refine zab 4 rfl (by kernel_rfl) (λKK hK=>?_);go_simp;obtain⟨w6,FO⟩:=aF (w5.alloc (.cells #[.func (.func gg) #[] cps] 278));rw[<-FO];have GA:Fr NoT w5 w6:=by rw[FO];exact aH.alloc _
   have Fj:Bk w6 w5.heap.size 278 #[.func (.func gg) #[] cps]:=by rw[FO];exact Bk.new _ _ _
   have Mz:w6.heap.size=w5.heap.size+1:=by rw[FO];simp
   have Ss:=aA (Kp _ (((Fr.refl NoT w4).drew.trans Gk.out).trans GA));have Na:=(Tg.fr0 PVal.st GU.out Gk.out).fr0 PVal.st GU.out GA;have KB:=aA Na;have J6:=aA Fj;have RD:=aA FO;have Re:=aA Mz;clear FO GA Fj Mz Na;try dsimp only
   refine hK _ _ (λ_ _=>Ss.out) ?_;clear hK KK;try simp only[aB]
   refine zab 5 rfl (by kernel_rfl) (λKK hK=>?_);refine step_append_lies _ (by rfl) _ _ _ (by rfl) (W.heap.size+2+1) 278 i1 .nilFunc 1 8 Tryz.underlying276 HI.1 HI.2.1 HI.2.2.1 HI.2.2.2 rfl (by decide) v vs.length vs (by rfl) KB.row
    ⟨w5.heap.size,0,none⟩ 1 1 [.func (.func gg) #[] cps] (by rfl) (by rfl) J6.newsK (by simp[Value.oneCell']) (by omega) ?c63 ?cby ?cba (w5.heap.size+1) Re.out ?_
   case c63=>have:=Mc.out;unfold maxLen;omega
   case cby=>have:=Mc.out;omega
   case cba=>have h1:=KB.bk.lt;omega
   intro Dn cap w7 Ha Hf GN Jp;have FZ:=Hf;rw[RD.out]at FZ;have Gu:=Tg.step PVal.st GU.out Gk.out ⟨_,by rw[Mc.out];exact PW.out,T5.out⟩ Ha FZ (by
    rcases GN with e|e
    ·exact .inl e.symm
    ·exact .inr (by rw[e];rfl))
   have FV:some (W.heap.size+2)≠v.ownBlock:=λe=>by have:=KB.row.lt _ e.symm;omega
   have f7:=(Hf.frozen_far ⟨W.heap.size+2,0,none⟩ KB.bk.lt FV).trans (KB.bk.frozen 0);have c7:=(Hf.cell_far ⟨W.heap.size+2,0,none⟩ KB.bk.lt FV).trans (KB.bk.cell 0);have l7:W.heap.size+2 < w7.heap.size:=aM KB.bk.lt Hf.size;have Gb:=aA Gu;simp only[aD]at c7;clear Ha Hf FZ GN Gu FV aC;try dsimp only
   refine hK _ _ (λh=>absurd h (by decide)) ?_;clear hK KK;try simp only[aB]
   refine zab 6 rfl (by kernel_rfl) (λKK hK=>?_);go_simp;refine hK _ _ (λh=>absurd h (by decide)) ?_;clear hK KK;try simp only[aB]
   refine zae (by kernel_rfl) ?_;clear c7 f7 l7 e0 e1 e2 e3 e4;go_wp2_with fail;go_roundw;case rel=>exact⟨k'+1,_,_,by omega,by go_num,aA (by have h9:=Gb.out;rw[Mc.out]at h9;exact h9),by rw[List.length_append,Mc.out];rfl⟩
   case measure=>simp[intOf];omega
  ·have G9:¬(k':Int) < (n:Int):=by omega
   obtain⟨A,c,rfl,Hi⟩:=HM.rowF;have J7:=Hu.trans HM.fr;have Ji:vs.length=n:=by omega
   have h2:=Hu.size;have hr:=HD wr (W.heap.size+2) A c vs J7 ⟨UF.fr0 HM.fr,aL _,(UF.fr0 HM.fr).lt⟩ (by rw[<-HN.out];exact⟨UG.fr0 HM.fr,Nat.le_succ _,(UG.fr0 HM.fr).lt⟩) (by rw[<-HN.out,<-Ji];exact⟨HM.bk,by omega,HM.bk.lt⟩) ⟨Hi.1,Hi.2.1,λhp=>by
     obtain⟨b,e,g1,g2,g3⟩:=Hi.2.2 hp;exact⟨b,e,aK h2 g1,g2,g3⟩⟩ (by rw[Ji];exact HN.out) (λi u X hu hX=>by
     obtain⟨lo,hi,⟨X',e,hv⟩,g1,g2,_⟩:=HM.vals i u hu;rw[hX]at e;obtain rfl:=Option.some.inj e;exact hv.wide (aK h2 g1) g2)
   have HR:=aA (show MkD C ps D W _ wr from⟨_,rfl,J7,hr⟩);clear hr Hi J7 HM Ji h2;go_wp2_with fail;go_ret;exact HR.out
def ClS (C:BgC)(p q:Nat)(nm:ByteArray)(v:Value)(W:World):Prop:=W.cell? ⟨p,0,none⟩=some (.pointer (some ⟨C.P,0,none⟩))/\W.cell? ⟨C.P,2,none⟩=some (.map (some C.MP))/\W.cell? ⟨q,1,none⟩=some (.string nm)/\(Instr.lookup 71 (.map (some C.MP)) (.string nm) false).run Tryz.prog W= .ok v W
theorem zlK (C:BgC)(ps:List (List UInt8))(ho:C.Ok)(k:Int)(nm:ByteArray)(args:Exs)(at_:Int)(hX:∀i k0 n0 m0 a0 t0 r0,Exs.drop i args= .cons k0 n0 m0 a0 t0 r0->ExpC C ps k0 n0 m0 a0 t0)(D:DoR)(W:World)(S:Nat->Prop)(Z:Prop)(A2 A3 A4 A5:Option Addr)(c2 l3 c3 l4 c4 l5 c5:Nat)(hT:C.T<=W.heap.size)(GE:PgAt C W)(hS:∀x,S x->x < C.B)(hx:SlR (λb o=>ExR W S Z args b o) args.len 64 A2 c2)
  {Ap:Option Addr} {np cp:Nat} {vb:Value} (J5:∀w',Fr NoT W w'->(Instr.lookup 71 (.map (some C.MP)) (.string nm) false).run Tryz.prog w'= .ok (.agg #[.slice Ap np cp,vb]) w') (ND:∃gg cps,vb= .func (.func gg) #[] cps)
  (hD:∀w' x A c vs,Fr NoT W w'->Bx W.heap.size w'.heap.size w' W.heap.size 69 #[.pointer (some ⟨C.P,0,none⟩)]->Bx W.heap.size w'.heap.size w' (W.heap.size+1) 51 (bgStC k nm A2 A3 A4 A5 args.len c2 l3 c3 l4 c4 l5 c5 at_)->Bx W.heap.size w'.heap.size w' (W.heap.size+2) 83 #[.slice Ap np cp,vb]->Bx W.heap.size w'.heap.size w' x 276 #[.slice A args.len c]->RowF W.heap.size w'.heap.size w' A c vs->vs.length=args.len->
   (∀(i:Nat) u X,vs[i]?=some u->(xsV C.n ps args)[i]?=some X->ValP C ps u X W.heap.size w'.heap.size w')->DoP C ps (.func (.func 183) #[] #[.pointer (some ⟨W.heap.size,0,none⟩),.pointer (some ⟨W.heap.size+1,0,none⟩),.pointer (some ⟨W.heap.size+2,0,none⟩),.pointer (some ⟨x,0,none⟩)]) D W.heap.size w'.heap.size w'):
  Calls Tryz.prog 111 #[.pointer (some ⟨C.P,0,none⟩),.agg (bgStC k nm A2 A3 A4 A5 args.len c2 l3 c3 l4 c4 l5 c5 at_)] W (MkD C ps D W):=by
 obtain⟨gB,capsB,rfl⟩:=ND;obtain⟨i1,Fd,Hw,GV,Gz⟩:=info_parts ziz;obtain⟨n,hn⟩:=aF args.len;have Jt:n*64<=140737488355328:=by rw[hn];exact hx.2.1.2
 have Fu:C.B<=W.heap.size:=by have h1:=ho.br;have h2:=ho.rT;omega
 have Gt:∀w',Fr NoT W w'->PgAt C w':=λw' hf=>GE.later ho (Later.of0 (lo:=0) (hi:=0) hf (Nat.zero_le _) hT);have Fx:∀w',Fr NoT W w'->SameS S W w':=λw' hf=>hf.same λb hb=>⟨aM (hS b hb) Fu,id⟩;obtain⟨w0,RI⟩:=aF (stW W C k nm A2 A3 A4 A5 n c2 l3 c3 l4 c4 l5 c5 at_);have Jo:Fr NoT W w0:=by rw[RI];exact(aH.alloc _).alloc _
 have UH:Bk w0 W.heap.size 69 #[.pointer (some ⟨C.P,0,none⟩)]:=by rw[RI];exact(Bk.new _ _ _).alloc _
 have UI:Bk w0 (W.heap.size+1) 51 (bgStC k nm A2 A3 A4 A5 n c2 l3 c3 l4 c4 l5 c5 at_):=by rw[RI];exact Bk.new_at _ _ _ (by simp)
 have Su:w0.heap.size=W.heap.size+2:=by rw[RI];simp
 obtain⟨w2,Gc⟩:=aF ((w0.alloc (.cells #[.slice Ap np cp,.func (.func gB) #[] capsB] 83)).drew );have Rf:Fr NoT w0 w2:=by
  rw[Gc];exact((Fr.refl NoT w0).alloc _).drew
 have He:=Jo.trans Rf;have Xd:=UH.fr0 Rf;have UE:=UI.fr0 Rf;have Hz:Bk w2 (W.heap.size+2) 83 #[.slice Ap np cp,.func (.func gB) #[] capsB]:=by
  rw[Gc];exact Bk.new_at w0 _ _ Su
 have M9:w2.heap.size=W.heap.size+3:=by rw[Gc];simp[Su]
 obtain⟨w3,GR⟩:=aF (w2.alloc (.cells #[.slice none 0 0] 276));have JU:MkL C w2 w3 w2.heap.size 276 278 (.slice none 0 0) [] (PVal C ps (xsV C.n ps args)):=MkL.zero (by rw[GR];exact aH.alloc _) (aL _) (by rw[GR];exact Bk.new _ _ _);have q2:=(UE.fr0 JU.fr).cell 2;simp only[bgStC,List.getElem?_toArray,List.getElem?_cons_succ,List.getElem?_cons_zero]at q2;have QO:=aA (show ∀w',Fr NoT w0 w'->ClS C W.heap.size (W.heap.size+1) nm (.agg #[.slice Ap np cp,.func (.func gB) #[] capsB]) w' from λw' hf=>⟨(UH.fr0 hf).cell 0,(Gt w' (Jo.trans hf)).p.cell 2,(UI.fr0 hf).cell 1,J5 w' (Jo.trans hf)⟩);have JF:=aA Hz;have jQ:=aA RI;have Kz:=aA Gc;have gv:=aA Su;have yz:=aA Rf;have HX:=aA hx;have Xe:=aA hX;have ST:=aA Gt;have MS:=aA Fx;have HS:=aA hS;have HD:=aA hD;have HT:=aA hT;have UF:=aA Xd;have UG:=aA UE;have Hu:=aA He;have PI:=aA JU;have HN:=aA hn;have HI:=aA (aG Fd (aG Hw (aG GV Gz)));have RH:=aA Fu;have LT:=aA GR;have MB:=aA M9;rw[M9]at PI;have gu:=aA (show W.heap.size+3 < w3.heap.size by have:=JU.bk.lt;omega);rw[<-hn];clear hx hX Gt Fx hS hD hT Xd UE He JU hn Fd Hw GV Gz Fu GR M9 Gc GE J5 Jo UH UI Su RI Rf Hz;have FW:n<=9223372036854775807:=by omega
 go_enter Tryz.func111,Tryz.ntmps111;go_wp2_with fail;have RI:=jQ.out;unfold stW at RI;rw[<-RI];clear RI;refine zad (ClS C W.heap.size (W.heap.size+1) nm (.agg #[.slice Ap np cp,.func (.func gB) #[] capsB])) (λi=>decide (i < 8)) (by kernel_rfl) (QO _ aH.drew) (λaC=>?_);refine zaa 4 ?_;simp only[aB];refine zay 0 (v:=?_) rfl (by kernel_rfl) (λ_ _ _ h=>h) aC (by rfl) ?_ ?_;rotate_left
 ·intro wz Ft;(try dsimp only[ClS,PmS]at Ft);go_simp;try with_reducible rfl
 try simp only[aB]
 refine zaa 1 ?_;simp only[aB];refine zaa 2 ?_;simp only[aB];refine zay 3 (v:=?_) rfl (by kernel_rfl) (λ_ _ _ h=>h) aC (by rfl) ?_ ?_;rotate_left
 ·intro wz Ft;(try dsimp only[ClS,PmS]at Ft);go_simp;try with_reducible rfl
 try simp only[aB]
 refine zay 5 (v:=?_) rfl (by kernel_rfl) (λ_ _ _ h=>h) aC (by rfl) ?_ ?_;rotate_left
 ·intro wz Ft;(try dsimp only[ClS,PmS]at Ft);go_simp;try with_reducible rfl
 try simp only[aB]
 refine zay 6 (v:=?_) rfl (by kernel_rfl) (λ_ _ _ h=>h) aC (by rfl) ?_ ?_;rotate_left
 ·intro wz Ft;(try dsimp only[ClS,PmS]at Ft);go_simp;try with_reducible rfl
 try simp only[aB]
 refine zab 7 rfl (by kernel_rfl) (λKK hK=>?_);go_simp;refine hK _ _ (λ_ _=>QO _ (aH.drew.alloc _)) ?_;clear hK KK;try simp only[aB]
 refine zab 8 rfl (by kernel_rfl) (λKK hK=>?_);go_simp;have hz:=gv.out;rw[hz];rw[<-Kz.out];refine hK _ _ (λh=>absurd h (by decide)) ?_;clear hK KK hz aC;try simp only[aB]
 refine zae (by kernel_rfl) ?_;have hO:=UG.lt;have Do:=UG.cell 2;simp only[bgStC,List.getElem?_toArray,List.getElem?_cons_succ,List.getElem?_cons_zero]at Do;go_wp2_with fail;rw[<-LT.out,MB.out];clear hO Do;go_wp2_with fail;go_loopw [19] (λi wr=>∃(k':Nat)(v:Value)(vs:List Value),k'<=n/\i= .int .i64 k'/\Hid (MkL C w2 wr (W.heap.size+3) 276 278 v vs (PVal C ps (xsV C.n ps args)))/\vs.length=k') (λi _=>n - (intOf i).toNat);case atStart=>exact⟨0,_,_,Nat.zero_le _,rfl,PI,rfl⟩
 case round=>
  clear q2 PI;obtain⟨k',v,vs,hk,rfl,HM,Jx⟩:=hrel;have Mc:=aA Jx;by_cases Hk:k' < n
  ·have Q3:k' < args.len:=by rw[<-HN.out];exact Hk
   obtain⟨b0,o0,rfl,Hg⟩:=HX.2.2 (by omega);obtain⟨k0,n0,m0,a0,t0,r0,L9⟩:=Exs.drop_cons Q3;have J7:=Hu.trans HM.fr;have Hq:=ExR.drop k' (ExR.keep (MS wr J7) Hg);rw[L9]at Hq;obtain⟨⟨Gn,_,_,GW,_,e0,e1,e2,e4⟩,⟨A1,c1,e3,s1⟩,_⟩:=Hq;obtain⟨l1,Fw⟩:=aF a0.len;rw[<-Fw]at e3;have Tf:=zlJ C.n ps k' args L9;have H9:=Xe k' _ _ _ _ _ _ L9;have Gj:(k':Int) < (n:Int):=by omega
   have JS:b0 < wr.heap.size:=aM (aM (HS _ Gn) RH.out) J7.size;obtain⟨w4,Fv⟩:=aF (wr.alloc (.cells #[.int .u8 k0,.string n0,.int .i64 m0,.slice A1 l1 c1,.int .i64 t0] 175));have HJ:Fr NoT wr w4:=by rw[Fv];exact aH.alloc _
   have Fq:Bk w4 wr.heap.size 175 #[.int .u8 k0,.string n0,.int .i64 m0,.slice A1 l1 c1,.int .i64 t0]:=by rw[Fv];exact Bk.new _ _ _
   have Jl:C.T<=w2.heap.size:=aK HT.out Hu.size;have GU:=aA Jl;have PO:=HM.fr0 PVal.st Jl HJ.drew;have Kp:=aA (show ∀w',Fr NoT w4 w'->PmS (W.heap.size+3) W.heap.size wr.heap.size (some ⟨C.P,0,none⟩) v (.int .u8 k0) (.string n0) (.int .i64 m0) (.slice A1 l1 c1) (.int .i64 t0) w' from λw' hf=>
    ⟨((HM.bk.fr0 HJ).fr0 hf).cell 0,(((UF.fr0 HM.fr).fr0 HJ).fr0 hf).cell 0,(Fq.fr0 hf).cell 0,(Fq.fr0 hf).cell 1,(Fq.fr0 hf).cell 2,(Fq.fr0 hf).cell 3,(Fq.fr0 hf).cell 4⟩)
   have Q0:=aA (show ∀w',Fr NoT w4 w'->_ from λw' hf=>H9 w' S Z A1 c1 (aK HT.out (J7.trans (HJ.trans hf)).size) (ST w' (J7.trans (HJ.trans hf))) HS.out GW (s1.imp λ_ _ hx=>ExR.keep ((HJ.trans hf).same λb hb=>⟨aM (aM (HS b hb) RH.out) J7.size,id⟩) hx));rw[<-Fw]at Q0;have Tg:=aA PO;have NP:=aA Fv;have PW:=aA Tf;clear Hg J7 GW s1 Fw Tf H9 Fv HJ Fq PO L9 Q3 Jl HM;go_wp2_with fail;rw[<-NP.out];refine zad (PmS (W.heap.size+3) W.heap.size wr.heap.size (some ⟨C.P,0,none⟩) v (.int .u8 k0) (.string n0) (.int .i64 m0) (.slice A1 l1 c1) (.int .i64 t0)) (λi=>decide (i < 5)) (by kernel_rfl) (Kp _ aH.drew) (λaC=>?_);refine zac 0 aC ?_;simp only[aB];refine zac 1 aC ?_;simp only[aB];refine zac 2 aC ?_;simp only[aB];refine zab 3 rfl (by kernel_rfl) (λKK hK=>?_);go_simp;go_at_call 175;refine(Q0 _ (Fr.refl NoT w4).drew).mono ?_;rintro _ w5 ⟨u,rfl,Hm,Jf⟩;obtain⟨gg,cps,rfl⟩:=Jf.func;have Gk:=aA Hm;have T5:=aA Jf;have NQ:=aA (Kp _ ((Fr.refl NoT w4).drew.trans Hm));clear Hm Jf;try dsimp only
   refine hK _ _ (λ_ _=>NQ.out) ?_;clear hK KK;try simp only[aB]
   refine zab 4 rfl (by kernel_rfl) (λKK hK=>?_);go_simp;obtain⟨w6,FO⟩:=aF (w5.alloc (.cells #[.func (.func gg) #[] cps] 278));rw[<-FO];have GA:Fr NoT w5 w6:=by rw[FO];exact aH.alloc _
   have Fj:Bk w6 w5.heap.size 278 #[.func (.func gg) #[] cps]:=by rw[FO];exact Bk.new _ _ _
   have Mz:w6.heap.size=w5.heap.size+1:=by rw[FO];simp
   have Ss:=aA (Kp _ (((Fr.refl NoT w4).drew.trans Gk.out).trans GA));have Na:=(Tg.fr0 PVal.st GU.out Gk.out).fr0 PVal.st GU.out GA;have KB:=aA Na;have J6:=aA Fj;have RD:=aA FO;have Re:=aA Mz;clear FO GA Fj Mz Na;try dsimp only
   refine hK _ _ (λ_ _=>Ss.out) ?_;clear hK KK;try simp only[aB]
   refine zab 5 rfl (by kernel_rfl) (λKK hK=>?_);refine step_append_lies _ (by rfl) _ _ _ (by rfl) (W.heap.size+3+1) 278 i1 .nilFunc 1 8 Tryz.underlying276 HI.1 HI.2.1 HI.2.2.1 HI.2.2.2 rfl (by decide) v vs.length vs (by rfl) KB.row
    ⟨w5.heap.size,0,none⟩ 1 1 [.func (.func gg) #[] cps] (by rfl) (by rfl) J6.newsK (by simp[Value.oneCell']) (by omega) ?c63 ?cby ?cba (w5.heap.size+1) Re.out ?_
   case c63=>have:=Mc.out;unfold maxLen;omega
   case cby=>have:=Mc.out;omega
   case cba=>have h1:=KB.bk.lt;omega
   intro Dn cap w7 Ha Hf GN Jp;have FZ:=Hf;rw[RD.out]at FZ;have Gu:=Tg.step PVal.st GU.out Gk.out ⟨_,by rw[Mc.out];exact PW.out,T5.out⟩ Ha FZ (by
    rcases GN with e|e
    ·exact .inl e.symm
    ·exact .inr (by rw[e];rfl))
   have FV:some (W.heap.size+3)≠v.ownBlock:=λe=>by have:=KB.row.lt _ e.symm;omega
   have f7:=(Hf.frozen_far ⟨W.heap.size+3,0,none⟩ KB.bk.lt FV).trans (KB.bk.frozen 0);have c7:=(Hf.cell_far ⟨W.heap.size+3,0,none⟩ KB.bk.lt FV).trans (KB.bk.cell 0);have l7:W.heap.size+3 < w7.heap.size:=aM KB.bk.lt Hf.size;have Gb:=aA Gu;simp only[aD]at c7;clear Ha Hf FZ GN Gu FV aC;try dsimp only
   refine hK _ _ (λh=>absurd h (by decide)) ?_;clear hK KK;try simp only[aB]
   refine zab 6 rfl (by kernel_rfl) (λKK hK=>?_);go_simp;refine hK _ _ (λh=>absurd h (by decide)) ?_;clear hK KK;try simp only[aB]
   refine zae (by kernel_rfl) ?_;clear c7 f7 l7 e0 e1 e2 e3 e4;go_wp2_with fail;go_roundw;case rel=>exact⟨k'+1,_,_,by omega,by go_num,aA (by have h9:=Gb.out;rw[Mc.out]at h9;exact h9),by rw[List.length_append,Mc.out];rfl⟩
   case measure=>simp[intOf];omega
  ·have G9:¬(k':Int) < (n:Int):=by omega
   obtain⟨A,c,rfl,Hi⟩:=HM.rowF;have J7:=Hu.trans HM.fr;have Ji:vs.length=n:=by omega
   have h2:=Hu.size;have hr:=HD wr (W.heap.size+3) A c vs J7 ⟨UF.fr0 HM.fr,aL _,(UF.fr0 HM.fr).lt⟩ (by rw[<-HN.out];exact⟨UG.fr0 HM.fr,Nat.le_succ _,(UG.fr0 HM.fr).lt⟩) ⟨JF.fr0 HM.fr,by omega,(JF.fr0 HM.fr).lt⟩ (by rw[<-HN.out,<-Ji];exact⟨HM.bk,by omega,HM.bk.lt⟩) ⟨Hi.1,Hi.2.1,λhp=>by
     obtain⟨b,e,g1,g2,g3⟩:=Hi.2.2 hp;exact⟨b,e,aK h2 g1,g2,g3⟩⟩ (by rw[Ji];exact HN.out) (λi u X hu hX=>by
     obtain⟨lo,hi,⟨X',e,hv⟩,g1,g2,_⟩:=HM.vals i u hu;rw[hX]at e;obtain rfl:=Option.some.inj e;exact hv.wide (aK h2 g1) g2)
   have HR:=aA (show MkD C ps D W _ wr from⟨_,rfl,J7,hr⟩);clear hr Hi J7 HM Ji h2;go_wp2_with fail;go_ret;exact HR.out
def PrAt (C:BgC)(kn:List UInt8->Prop)(w:World):Prop:=∃N f,MpV w C.MP N f/\∀nm p,kn nm->C.n.procs nm=some p->
 ∃Ap cp vb S Z,f nm=some (.agg #[.slice Ap p.params.length cp,vb])/\DoP C (p.params.map (·.nm.data.toList)) vb (RunT C.n (.all (p.params.map (·.nm.data.toList)) p.body)) 0 0 w/\SlR (VaR w S Z p.params) p.params.length 24 Ap cp/\(∀b,S b->b < C.B)/\(∀x∈p.params,x.nm.size<=9223372036854775807)/\(p.params.map (·.nm.data.toList)).Nodup /\∀nm∈p.params.map (·.nm.data.toList),posI C.n.vars nm=none
theorem PrAt.fr0 {C:BgC}{kn:List UInt8->Prop}{w w':World}(h:PrAt C kn w)(ho:C.Ok)(hT:C.T<=w.heap.size)(hf:Fr NoT w w'):PrAt C kn w':=by
 obtain⟨N,f,h1,h2⟩:=h;refine⟨N,f,h1.fr hf id,λnm p hk hp=>?_⟩;obtain⟨Ap,cp,vb,S,Z,g1,g2,g3,g4,g5⟩:=h2 nm p hk hp;have yA:C.B<=C.T:=by have h1:=ho.br;have h2:=ho.rT;omega
 exact⟨Ap,cp,vb,S,Z,g1,g2.later (Later.of0 hf (Nat.zero_le _) hT),g3.imp λ_ _ hx=>VaR.keep (hf.same λb hb=>⟨aM (g4 b hb) (aK yA hT),id⟩) hx,g4,g5⟩
def dsS (n:Bn)(ps:List (List UInt8)):Sts->List DoR
 | .nil => []
 | .cons k nm args cond body els at_ r=>RunT n (.one ps k nm args cond body els at_)::dsS n ps r
theorem zlL (n:Bn)(ps:List (List UInt8)):∀xs,(dsS n ps xs).length =xs.len
 | .nil =>rfl
 | .cons _ _ _ _ _ _ _ r=>by simp only[dsS,Sts.len,List.length_cons,zlL n ps r]
theorem zoj (n:Bn)(ps:List (List UInt8)):∀(i:Nat)(xs:Sts) {k nm a c b e t r},Sts.drop i xs= .cons k nm a c b e t r->(dsS n ps xs)[i]?=some (RunT n (.one ps k nm a c b e t))
 |0,.cons _ _ _ _ _ _ _ _,_,_,_,_,_,_,_,_,h=>by
  simp only[Sts.drop,Sts.cons.injEq]at h;obtain⟨rfl,rfl,rfl,rfl,rfl,rfl,rfl,_⟩:=h;rfl
 |0,.nil,_,_,_,_,_,_,_,_,h=>by simp[Sts.drop]at h
 |i+1,.nil,_,_,_,_,_,_,_,_,h=>by simp[Sts.drop]at h
 |i+1,.cons _ _ _ _ _ _ _ r,_,_,_,_,_,_,_,_,h=>by
  simp only[Sts.drop]at h;simpa[dsS]using zoj n ps i r h
theorem ziA (n:Bn)(ps:List (List UInt8)):∀xs,∀D∈dsS n ps xs,∀s h t,D s h t->t.left<=s.left
 | .nil,D,hD,_,_,_,_=>by simp[dsS]at hD
 | .cons k nm args cond body els at_ r,D,hD,s,h,t,hr=>by
  simp only[dsS,List.mem_cons]at hD;rcases hD with rfl|hD
  ·exact RunT.left_le hr
  ·exact ziA n ps r D hD s h t hr
theorem zlM {n:Bn}{ps:List (List UInt8)}:∀(xs:Sts) {s h t},RunT n (.all ps xs) s h t->seqD (dsS n ps xs) s h t
 | .nil,s,h,t,hr=>by cases hr;exact⟨rfl,rfl⟩
 | .cons _ _ _ _ _ _ _ r,s,h,t,hr=>by
  cases hr with
  |next h1 h2=>exact .inr ⟨_,h1,zlM r h2⟩
  |stop h1=>exact .inl ⟨_,rfl,h1⟩
theorem DoP.to {C:BgC}{ps:List (List UInt8)}{val:Value}{D D':DoR}{lo hi:Nat}{w:World}(h:DoP C ps val D lo hi w)(hD:∀s h t,D' s h t->D s h t):DoP C ps val D' lo hi w:=by
 obtain⟨g,caps,h1,h2,h3⟩:=h;exact⟨g,caps,h1,h2,λW oc nb s h t hr hd=>h3 W oc nb s h t hr (hD _ _ _ hd)⟩
theorem DoP.func {C:BgC}{ps:List (List UInt8)}{val:Value}{D:DoR}{lo hi:Nat}{w:World}(h:DoP C ps val D lo hi w):∃g caps,val= .func (.func g) #[] caps:=by
 obtain⟨g,caps,e,_⟩:=h;exact⟨g,caps,e⟩
def PDo (C:BgC)(ps:List (List UInt8))(Ds:List DoR):RowP:=λi v lo hi w=>∃D,Ds[i]?=some D/\DoP C ps v D lo hi w
theorem PDo.st {C:BgC}{ps:List (List UInt8)}{Ds:List DoR}:RwS C (PDo C ps Ds):=λi v lo hi w w' hl h=>by
 obtain⟨D,h1,h2⟩:=h;exact⟨D,h1,h2.later hl⟩
def OneC (C:BgC)(kn:List UInt8->Prop)(ps:List (List UInt8))(k:Int)(nm:ByteArray)(args:Exs)(cond:Cds)(body els:Sts)(at_:Int):Prop:=
 ∀(W:World)(S:Nat->Prop)(Z:Prop)(A2 A3 A4 A5:Option Addr)(c2 c3 c4 c5:Nat),C.T<=W.heap.size->PgAt C W->PrAt C kn W->(∀x,S x->x < C.B)->SlR (λb o=>ExR W S Z args b o) args.len 64 A2 c2->SlR (λb o=>CdR W S Z cond b o) cond.len 64 A3 c3->SlR (λb o=>StR W S Z body b o) body.len 128 A4 c4->SlR (λb o=>StR W S Z els b o) els.len 128 A5 c5->
  Calls Tryz.prog 54 #[.pointer (some ⟨C.P,0,none⟩),.agg (bgStC k nm A2 A3 A4 A5 args.len c2 cond.len c3 body.len c4 els.len c5 at_)] W (MkD C ps (RunT C.n (.one ps k nm args cond body els at_)) W)
def zg7 (C:BgC)(kn:List UInt8->Prop)(ps:List (List UInt8))(xs:Sts):Prop:=
 ∀(W:World)(S:Nat->Prop)(Z:Prop)(A:Option Addr)(c:Nat),C.T<=W.heap.size->PgAt C W->PrAt C kn W->(∀x,S x->x < C.B)->SlR (λb o=>StR W S Z xs b o) xs.len 128 A c->
  Calls Tryz.prog 23 #[.pointer (some ⟨C.P,0,none⟩),.slice A xs.len c] W (MkD C ps (RunT C.n (.all ps xs)) W)
def PaS (g b:Nat)(v v0 v1 v2 v3 v4 v5 v6:Value)(W:World):Prop:=W.cell? ⟨g,0,none⟩=some v/\W.cell? ⟨b,0,none⟩=some v0/\W.cell? ⟨b,1,none⟩=some v1/\W.cell? ⟨b,2,none⟩=some v2/\W.cell? ⟨b,3,none⟩=some v3/\W.cell? ⟨b,4,none⟩=some v4/\W.cell? ⟨b,5,none⟩=some v5/\W.cell? ⟨b,6,none⟩=some v6
theorem zlN:(Tryz.prog.info? 80).map (λi=>(i.zero,i.size,i.bytes))=some (some .nilFunc,1,8):=by kernel_rfl
theorem zgb (C:BgC)(kn:List UInt8->Prop)(ps:List (List UInt8))(ho:C.Ok)(xs:Sts)(hX:∀i k nm a cd b e t r,Sts.drop i xs= .cons k nm a cd b e t r->OneC C kn ps k nm a cd b e t):zg7 C kn ps xs:=by
 intro W S Z A c hT GE Kw hS hx;obtain⟨i1,Fd,Hw,GV,Gz⟩:=info_parts zlN;obtain⟨n,hn⟩:=aF xs.len;have Jt:n*128<=140737488355328:=by rw[hn];exact hx.2.1.2
 have Fu:C.B<=W.heap.size:=by have h1:=ho.br;have h2:=ho.rT;omega
 have Gt:∀w',Fr NoT W w'->PgAt C w':=λw' hf=>GE.later ho (Later.of0 (lo:=0) (hi:=0) hf (Nat.zero_le _) hT);have P0:∀w',Fr NoT W w'->PrAt C kn w':=λw' hf=>Kw.fr0 ho hT hf;have Fx:∀w',Fr NoT W w'->SameS S W w':=λw' hf=>hf.same λb hb=>⟨aM (hS b hb) Fu,id⟩;obtain⟨w3,GR⟩:=aF (W.alloc (.cells #[.slice none 0 0] 147));have JU:MkL C W w3 W.heap.size 147 80 (.slice none 0 0) [] (PDo C ps (dsS C.n ps xs)):=MkL.zero (by rw[GR];exact aH.alloc _) (aL _) (by rw[GR];exact Bk.new _ _ _);have HX:=aA hx;have Xe:=aA hX;have ST:=aA Gt;have yB:=aA P0;have MS:=aA Fx;have HS:=aA hS;have HT:=aA hT;have PI:=aA JU;have HN:=aA hn;have HI:=aA (aG Fd (aG Hw (aG GV Gz)));have RH:=aA Fu;have LT:=aA GR;have HO:=aA ho;rw[<-hn];clear hx hX Gt P0 Fx hS hT JU hn Fd Hw GV Gz Fu GR GE Kw ho;have FW:n<=9223372036854775807:=by omega
 go_enter Tryz.func23,Tryz.ntmps23;go_wp2_with fail;rw[<-LT.out];go_loopw [10] (λi wr=>∃(k':Nat)(v:Value)(vs:List Value),k'<=n/\i= .int .i64 k'/\Hid (MkL C W wr W.heap.size 147 80 v vs (PDo C ps (dsS C.n ps xs)))/\vs.length=k') (λi _=>n - (intOf i).toNat);case atStart=>exact⟨0,_,_,Nat.zero_le _,rfl,PI,rfl⟩
 case round=>
  clear PI;obtain⟨k',v,vs,hk,rfl,HM,Jx⟩:=hrel;have Mc:=aA Jx;by_cases Hk:k' < n
  ·have Q3:k' < xs.len:=by rw[<-HN.out];exact Hk
   obtain⟨b0,o0,rfl,Hg⟩:=HX.2.2 (by omega);obtain⟨k0,n0,a0,d0,y0,z0,t0,r0,L9⟩:=Sts.drop_cons Q3;have J7:=HM.fr;have Hq:=StR.drop k' (StR.keep (MS wr J7) Hg);rw[L9]at Hq;obtain⟨⟨Gn,_,_,_,e0,e1,e6⟩,⟨A2,c2,e2,s2⟩,⟨A3,c3,e3,s3⟩,⟨A4,c4,e4,s4⟩,⟨A5,c5,e5,s5⟩,_⟩:=Hq;obtain⟨l2,FM⟩:=aF a0.len;obtain⟨l3,JP⟩:=aF d0.len;obtain⟨l4,KP⟩:=aF y0.len;obtain⟨l5,Jr⟩:=aF z0.len;rw[<-FM]at e2;rw[<-JP]at e3;rw[<-KP]at e4;rw[<-Jr]at e5;have Tf:=zoj C.n ps k' xs L9;have H9:=Xe k' _ _ _ _ _ _ _ _ L9;have Gj:(k':Int) < (n:Int):=by omega
   have JS:b0 < wr.heap.size:=aM (aM (HS _ Gn) RH.out) J7.size;obtain⟨w4,Fv⟩:=aF (wr.alloc (.cells #[.int .u8 k0,.string n0,.slice A2 l2 c2,.slice A3 l3 c3,.slice A4 l4 c4,.slice A5 l5 c5,.int .i64 t0] 51));have HJ:Fr NoT wr w4:=by rw[Fv];exact aH.alloc _
   have Fq:Bk w4 wr.heap.size 51 #[.int .u8 k0,.string n0,.slice A2 l2 c2,.slice A3 l3 c3,.slice A4 l4 c4,.slice A5 l5 c5,.int .i64 t0]:=by rw[Fv];exact Bk.new _ _ _
   have PO:=HM.fr0 PDo.st HT.out HJ.drew;have Kp:=aA (show ∀w',Fr NoT w4 w'->PaS W.heap.size wr.heap.size v (.int .u8 k0) (.string n0) (.slice A2 l2 c2) (.slice A3 l3 c3) (.slice A4 l4 c4) (.slice A5 l5 c5) (.int .i64 t0) w' from λw' hf=>
    ⟨((HM.bk.fr0 HJ).fr0 hf).cell 0,(Fq.fr0 hf).cell 0,(Fq.fr0 hf).cell 1,(Fq.fr0 hf).cell 2,(Fq.fr0 hf).cell 3,(Fq.fr0 hf).cell 4,(Fq.fr0 hf).cell 5,(Fq.fr0 hf).cell 6⟩)
   have Q0:=aA (show ∀w',Fr NoT w4 w'->_ from λw' hf=>
    have N2:SameS S wr w':=(HJ.trans hf).same λb hb=>⟨aM (aM (HS b hb) RH.out) J7.size,id⟩
    H9 w' S Z A2 A3 A4 A5 c2 c3 c4 c5 (aK HT.out (J7.trans (HJ.trans hf)).size) (ST w' (J7.trans (HJ.trans hf))) (yB w' (J7.trans (HJ.trans hf))) HS.out (s2.imp λ_ _ hx=>ExR.keep N2 hx) (s3.imp λ_ _ hx=>CdR.keep N2 hx) (s4.imp λ_ _ hx=>StR.keep N2 hx) (s5.imp λ_ _ hx=>StR.keep N2 hx))
   rw[<-FM,<-JP,<-KP,<-Jr]at Q0;have Tg:=aA PO;have NP:=aA Fv;have PW:=aA Tf;clear Hg J7 s2 s3 s4 s5 FM JP KP Jr Tf H9 Fv HJ Fq PO L9 Q3 HM;go_wp2_with fail;rw[<-NP.out];refine zad (PaS W.heap.size wr.heap.size v (.int .u8 k0) (.string n0) (.slice A2 l2 c2) (.slice A3 l3 c3) (.slice A4 l4 c4) (.slice A5 l5 c5) (.int .i64 t0)) (λi=>decide (i < 5)) (by kernel_rfl) (Kp _ aH.drew) (λaC=>?_);refine zaa 1 ?_;simp only[aB];refine zac 0 aC ?_;simp only[aB];refine zac 2 aC ?_;simp only[aB];refine zab 3 rfl (by kernel_rfl) (λKK hK=>?_);go_simp;go_at_call 54;refine(Q0 _ (Fr.refl NoT w4).drew).mono ?_;rintro _ w5 ⟨u,rfl,Hm,Jf⟩;obtain⟨gg,cps,rfl⟩:=Jf.func;have Gk:=aA Hm;have T5:=aA Jf;have NQ:=aA (Kp _ ((Fr.refl NoT w4).drew.trans Hm));clear Hm Jf;try dsimp only
   refine hK _ _ (λ_ _=>NQ.out) ?_;clear hK KK;try simp only[aB]
   refine zab 4 rfl (by kernel_rfl) (λKK hK=>?_);go_simp;obtain⟨w6,FO⟩:=aF (w5.alloc (.cells #[.func (.func gg) #[] cps] 80));rw[<-FO];have GA:Fr NoT w5 w6:=by rw[FO];exact aH.alloc _
   have Fj:Bk w6 w5.heap.size 80 #[.func (.func gg) #[] cps]:=by rw[FO];exact Bk.new _ _ _
   have Mz:w6.heap.size=w5.heap.size+1:=by rw[FO];simp
   have Ss:=aA (Kp _ (((Fr.refl NoT w4).drew.trans Gk.out).trans GA));have Na:=(Tg.fr0 PDo.st HT.out Gk.out).fr0 PDo.st HT.out GA;have KB:=aA Na;have J6:=aA Fj;have RD:=aA FO;have Re:=aA Mz;clear FO GA Fj Mz Na;try dsimp only
   refine hK _ _ (λ_ _=>Ss.out) ?_;clear hK KK;try simp only[aB]
   refine zab 5 rfl (by kernel_rfl) (λKK hK=>?_);refine step_append_lies _ (by rfl) _ _ _ (by rfl) (W.heap.size+1) 80 i1 .nilFunc 1 8 Tryz.underlying147 HI.1 HI.2.1 HI.2.2.1 HI.2.2.2 rfl (by decide) v vs.length vs (by rfl) KB.row
    ⟨w5.heap.size,0,none⟩ 1 1 [.func (.func gg) #[] cps] (by rfl) (by rfl) J6.newsK (by simp[Value.oneCell']) (by omega) ?c63 ?cby ?cba (w5.heap.size+1) Re.out ?_
   case c63=>have:=Mc.out;unfold maxLen;omega
   case cby=>have:=Mc.out;omega
   case cba=>have h1:=KB.bk.lt;omega
   intro Dn cap w7 Ha Hf GN Jp;have FZ:=Hf;rw[RD.out]at FZ;have Gu:=Tg.step PDo.st HT.out Gk.out ⟨_,by rw[Mc.out];exact PW.out,T5.out⟩ Ha FZ (by
    rcases GN with e|e
    ·exact .inl e.symm
    ·exact .inr (by rw[e];rfl))
   have FV:some W.heap.size≠v.ownBlock:=λe=>by have:=KB.row.lt _ e.symm;omega
   have f7:=(Hf.frozen_far ⟨W.heap.size,0,none⟩ KB.bk.lt FV).trans (KB.bk.frozen 0);have c7:=(Hf.cell_far ⟨W.heap.size,0,none⟩ KB.bk.lt FV).trans (KB.bk.cell 0);have l7:W.heap.size < w7.heap.size:=aM KB.bk.lt Hf.size;have Gb:=aA Gu;simp only[aD]at c7;clear Ha Hf FZ GN Gu FV aC;try dsimp only
   refine hK _ _ (λh=>absurd h (by decide)) ?_;clear hK KK;try simp only[aB]
   refine zab 6 rfl (by kernel_rfl) (λKK hK=>?_);go_simp;refine hK _ _ (λh=>absurd h (by decide)) ?_;clear hK KK;try simp only[aB]
   refine zae (by kernel_rfl) ?_;clear c7 f7 l7 e0 e1 e2 e3 e4 e5 e6;go_wp2_with fail;go_roundw;case rel=>exact⟨k'+1,_,_,by omega,by go_num,aA (by have h9:=Gb.out;rw[Mc.out]at h9;exact h9),by rw[List.length_append,Mc.out];rfl⟩
   case measure=>simp[intOf];omega
  ·have G9:¬(k':Int) < (n:Int):=by omega
   obtain⟨A9,c9,rfl,Hi⟩:=HM.rowF;have J7:=HM.fr;have Ji:vs.length=n:=by omega
   have hlen:vs.length=(dsS C.n ps xs).length :=by rw[zlL,Ji];exact HN.out
   have hd:=all_1 (ps:=ps) HO.out HT.out ⟨HM.bk,aL _,HM.bk.lt⟩ Hi hlen (λi u D hu hD=>by
     obtain⟨lo,hi,⟨D',e,hv⟩,g1,g2,_⟩:=HM.vals i u hu;rw[hD]at e;obtain rfl:=Option.some.inj e;exact hv.wide g1 g2) (ziA C.n ps xs)
   have HR:=aA (show MkD C ps (RunT C.n (.all ps xs)) W _ wr from⟨_,rfl,J7,hd.to λs h t hr=>zlM xs hr⟩);clear hd Hi J7 HM Ji hlen;go_wp2_with fail;go_ret;exact HR.out
def zg8 (R:Nat)(w:World):Nat:=match w.cell? ⟨R,6,none⟩with
 |some (.int _ n)=>n.toNat
 |_=>0
theorem BgSt.leftIs {C:BgC}{oc:List Nat}{s:Bs}{w:World}(h:BgSt C oc s w):zg8 C.R w=s.left:=by
 obtain⟨As,cs,_,hb⟩:=h.run;have c6:=hb.cell 6;simp only[runV,List.getElem?_toArray,List.getElem?_cons_succ,List.getElem?_cons_zero]at c6;unfold zg8;rw[c6];simp
section
variable {C:BgC} {ps:List (List UInt8)} {w:World} {lo hi q:Nat} {k:Int} {nm:ByteArray} {at_:Int}
theorem one_2 {p x1 x2:Nat}{ty:TypeId}{cs:Array Value}{v1 v2:Value}{X:Bs->Tru}{D:Bs->Option Ho->Bs->Prop}(ho:C.Ok)(hT:C.T<=lo)(GE:PgAt C w)(hp:Bx lo hi w p 69 #[.pointer (some ⟨C.P,0,none⟩)])(hq:Bx lo hi w q ty cs)(h6:cs[6]?=some (.int .i64 at_))(h1:Bx lo hi w x1 223 #[v1])(h2:Bx lo hi w x2 80 #[v2])
  (F5:TruP C ps v1 X lo hi w) (Kv:DoP C ps v2 D lo hi w) (hX:∀s l,(X s l).2 <=l) (WX:∀s h t,D s h t->t.left<=s.left):
  DoP C ps (.func (.func 109) #[] #[.pointer (some ⟨p,0,none⟩),.pointer (some ⟨q,0,none⟩),.pointer (some ⟨x1,0,none⟩),.pointer (some ⟨x2,0,none⟩)]) (lpD X D at_) lo hi w:=by
 obtain⟨g1,xi,rfl,Jk,Hn⟩:=F5;obtain⟨g2,xj,rfl,Lz,Ht⟩:=Kv;refine⟨_,_,rfl,enters_of Tryz.func109 (by kernel_rfl) rfl,λW oc nb s h t M7 hD=>?_⟩;have hW:=M7.fr0 ho (Fr.refl NoT W).drew;have HS:=aA (λW' t (h':RunAt C lo hi w W' ps oc nb t)=>h'.cts ho hT GE hp hq (i:=6) h6);have HC:=aA (λW' t (h':RunAt C lo hi w W' ps oc nb t)=>zbU h'.st ho at_);have Gw:=aA (λW' t (h':RunAt C lo hi w W' ps oc nb t)=>(show W'.cell? ⟨x1,0,none⟩=some (.func (.func g1) #[] xi)from(h'.bx ho hT h1).cell 0));have LR:=aA (λW' t (h':RunAt C lo hi w W' ps oc nb t)=>(show W'.cell? ⟨x2,0,none⟩=some (.func (.func g2) #[] xj)from(h'.bx ho hT h2).cell 0));have Fz:=aA (λW' s (h':RunAt C lo hi w W' ps oc nb s)=>Hn W' oc nb s h');have LL:=aA (λW' s h t (h':RunAt C lo hi w W' ps oc nb s) hd=>Ht W' oc nb s h t h' hd);have La:=aA (λW' W2 t (h':RunAt C lo hi w W' ps oc nb t) (hf:Fr NoT W' W2)=>h'.fr0 ho hf);have HW:=aA hW;have HX:=aA hX;have ge:=aA WX;unfold Enters at Jk Lz;show Calls Tryz.prog 109 #[.map (some nb),.pointer (some ⟨p,0,none⟩),.pointer (some ⟨q,0,none⟩),.pointer (some ⟨x1,0,none⟩),.pointer (some ⟨x2,0,none⟩)] W (DoQ C oc h t W)
 have HD:=aA hD;obtain⟨R,hR⟩:=aF C.R;rw[<-hR]at HC;have HR:=aA hR;clear Hn Ht hq hp h1 h2 hT hW M7 GE hD ho h6 hX WX hR;go_enter Tryz.func109,Tryz.ntmps109;go_wp2_with fail;refine zad (CtS C p q 6 at_) (λ_=>true) (by kernel_rfl) (HS _ _ HW.out) (λaC=>?_);refine zaa 4 ?_;simp only[aB];refine zac 0 aC ?_;simp only[aB];refine zac 5 aC ?_;simp only[aB];refine zaa 1 ?_;simp only[aB];refine zaa 2 ?_;simp only[aB];refine zac 3 aC ?_;simp only[aB];refine zab 6 rfl (by kernel_rfl) (λKK hK=>?_);go_simp;go_at_call 110;rw[<-HR.out];refine(HC _ _ HW.out).mono ?_;rintro e w1 (⟨h0,rfl,rfl⟩|⟨m,hm,rfl,GV,Hd⟩)
 ·rcases HD.out with⟨_,rfl,rfl⟩|⟨m,hm,_⟩
  ·exact⟨rfl,rfl,HW.st,aH.drew⟩
  ·omega
 have Jg:RunAt C lo hi w w1 ps oc nb {s with left:=m}:=HW.next Hd.toO GV (by show m<=s.left;omega);have KQ:LpR X D at_ {s with left:=m} h t:=by
  rcases HD.out with⟨h0,_,_⟩|⟨m',WD,hl⟩
  ·omega
  ·obtain rfl:m=m':=by omega
   exact hl
 have H1:=aA Jg;have HL:=aA KQ;have Hl:=aA (show Fr (C.MutO oc) W w1 from(aH.drew.trans Hd).toO);clear GV Hd Jg hm aC HD KQ HW;try dsimp only
 refine hK _ _ (λ_ _=>HS _ _ H1.out) ?_;clear hK KK;try simp only[aB]
 refine zae (by kernel_rfl) ?_;go_wp2_with fail;go_loopw [13] (λ_ wr=>∃s',Hid (RunAt C lo hi w wr ps oc nb s')/\Hid (LpR X D at_ s' h t)/\Hid (Fr (C.MutO oc) W wr)) (λ_ wr=>zg8 C.R wr);case atStart=>exact⟨_,H1,HL,Hl⟩
 case round=>
  clear H1 HL Hl;obtain⟨s1,H1,HL,Hl⟩:=hrel;have c1:=Gw _ _ H1.out;go_wp2_with fail;refine(Fz _ _ H1.out).mono ?_;rintro e w2 ⟨rfl,GH,He⟩;have Nh:=HX s1 s1.left;rcases hx:X s1 s1.left with⟨h0|(_|_),l⟩;all_goals
   rw[hx]at GH Nh;have Nh:l<=s1.left:=Nh;have GH:BgSt C oc {s1 with left:=l} w2:=GH;have GT:=H1.next He.toO GH Nh;have PS:=Hl.trans He.toO
  ·have hl:=HL.out;cases hl with
   |ask F8=>rw[hx]at F8;cases F8;exact⟨rfl,rfl,GH,PS⟩
   |done F8=>rw[hx]at F8;cases F8
   |leave F8 _=>rw[hx]at F8;cases F8
   |out F8 _ _=>rw[hx]at F8;cases F8
   |again F8 _ _ _=>rw[hx]at F8;cases F8
  ·have hq:DoQ C oc h t W (.returned (.tuple #[])) w2:=by
    have hl:=HL.out;cases hl with
    |ask F8=>rw[hx]at F8;cases F8
    |done F8=>rw[hx]at F8;cases F8;exact⟨rfl,GH,PS⟩
    |leave F8 _=>rw[hx]at F8;cases F8
    |out F8 _ _=>rw[hx]at F8;cases F8
    |again F8 _ _ _=>rw[hx]at F8;cases F8
   have HQ:=aA hq;clear hq GH GT PS He Nh hx c1;unfold zce;go_wp2_with fail;go_end0;exact HQ.out
  ·have H2:=aA GT;have Hu:=aA PS;have PW:=aA hx;have c2:=LR _ _ GT;have Vw:=aA Nh;have Uv:∃h1 t1,D {s1 with left:=l} h1 t1/\((∃z,h1=some z/\h=some z/\t=t1)\/(h1=none/\t1.left=0/\h=some ⟨2,0,at_⟩/\t=t1)\/(h1=none/\∃m,t1.left=m+1/\LpR X D at_ {t1 with left:=m} h t)):=by
    have hl:=HL.out;cases hl with
    |ask F8=>rw[hx]at F8;cases F8
    |done F8=>rw[hx]at F8;cases F8
    |leave F8 hd=>rw[hx]at F8;cases F8;exact⟨_,_,hd,.inl ⟨_,rfl,rfl,rfl⟩⟩
    |out F8 hd h0=>rw[hx]at F8;cases F8;exact⟨_,_,hd,.inr (.inl ⟨rfl,h0,rfl,rfl⟩)⟩
    |again F8 hd hm hl=>rw[hx]at F8;cases F8;exact⟨_,_,hd,.inr (.inr ⟨rfl,_,hm,hl⟩)⟩
   obtain⟨h1,t1,hd,M8⟩:=Uv;have Ym:=aA (LL _ _ _ _ GT hd);have kE:=aA (ge _ _ _ hd);have WY:=aA M8;clear GH GT PS He Nh hx c1 HL M8 hd;unfold zce;go_wp2_with fail;refine Ym.mono ?_;rintro e w3 ⟨rfl,KT,Gg⟩;rcases WY.out with⟨z,rfl,rfl,rfl⟩|Mf
   ·exact⟨rfl,rfl,KT,Hu.trans Gg⟩
   obtain rfl:h1=none:=by rcases Mf with⟨e,_⟩|⟨e,_⟩<;>exact e
   have Ph:t1.left<=l:=kE.out;have JA:=La _ _ _ (H2.next Gg KT Ph) (Fr.refl NoT w3).drew;have H3:=aA JA;have Gi:=aA (show Fr (C.MutO oc) W w3.drew from(Hu.trans Gg).drew);have Ty:=aA Mf;have V4:=aA Ph;clear KT Gg JA Mf Ph WY Ym kE c2;unfold zeI;go_wp2_with fail;refine zad (CtS C p q 6 at_) (λ_=>true) (by kernel_rfl) (HS _ _ H3.out) (λaC=>?_);refine zaa 4 ?_;simp only[aB];refine zac 0 aC ?_;simp only[aB];refine zac 5 aC ?_;simp only[aB];refine zaa 1 ?_;simp only[aB];refine zaa 2 ?_;simp only[aB];refine zac 3 aC ?_;simp only[aB];refine zab 6 rfl (by kernel_rfl) (λKK hK=>?_);go_simp;go_at_call 110;rw[<-HR.out];refine(HC _ _ H3.out).mono ?_;rintro e w4 (⟨h0,rfl,rfl⟩|⟨m,hm,rfl,Mt,HJ⟩)
   ·rcases Ty.out with⟨_,_,rfl,rfl⟩|⟨_,m,hm,_⟩
    ·exact⟨rfl,rfl,H3.st,Gi.out⟩
    ·omega
   have Pa:RunAt C lo hi w w4 ps oc nb {t1 with left:=m}:=H3.next HJ.toO Mt (by show m<=t1.left;omega);have KP:LpR X D at_ {t1 with left:=m} h t:=by
    rcases Ty.out with⟨_,h0,_,_⟩|⟨_,m',WD,hl⟩
    ·omega
    ·obtain rfl:m=m':=by omega
     exact hl
   have HM:=aA (show zg8 C.R w4 < zg8 C.R wr by
    rw[Pa.st.leftIs,H1.st.leftIs];have h1:=Vw.out;have h2:=V4.out;show m < s1.left
    omega)
   have GG:=aA (Gi.trans HJ.toO);have H4:=aA Pa;have yC:=aA KP;clear Mt HJ Pa KP hm Ty aC;try dsimp only
   refine hK _ _ (λ_ _=>HS _ _ H4.out) ?_;clear hK KK;try simp only[aB]
   refine zae (by kernel_rfl) ?_;go_wp2_with fail;go_roundw;case rel=>exact⟨_,H4,yC,GG⟩
   case measure=>exact HM.out
end
section
variable {n:Bn} {ps:List (List UInt8)} {nm:ByteArray} {args:Exs} {cond:Cds} {body els:Sts} {at_:Int} {s t:Bs} {h:Option Ho}
theorem zc4 {k:Int}(hk:k<=4)(r:RunT n (.one ps k nm args cond body els at_) s h t):(h,t)=zbj n ps s k nm args at_:=by
 cases r with
 |plain _=>rfl
 |fault a=>omega
 |holds a=>omega
 |fails a=>omega
 |yes=>omega
 |no=>omega
 |out a=>omega
 |ask=>omega
 |done=>omega
 |leave=>omega
 |again=>omega
 |give=>omega
 |call=>omega
theorem inv_1 (r:RunT n (.one ps 1 nm args cond body els at_) s h t):(h,t)=zjG at_ s:=by
 rw[zc4 (by decide) r];unfold zbj zjG;cases s.left<;>rfl
theorem inv_2 {k0 n0 m0 a0 t0}(e:args= .cons k0 n0 m0 a0 t0 .nil)(r:RunT n (.one ps 2 nm args cond body els at_) s h t):(h,t)=bgSetO n ps nm at_ (valH n ps k0 n0 m0 t0 a0) s:=by
 rw[zc4 (by decide) r,e];unfold zbj bgSetO;cases s.left with
 |zero=>rfl
 |succ m=>
  simp only[if_true];rw[zbV];rcases valH n ps k0 n0 m0 t0 a0 {s with left:=m}with z|x<;>rfl
theorem inv_3 {k0 n0 m0 a0 t0 k1 n1 m1 a1 t1}(e:args= .cons k0 n0 m0 a0 t0 (.cons k1 n1 m1 a1 t1 .nil))(r:RunT n (.one ps 3 nm args cond body els at_) s h t):(h,t)=stoO n nm at_ (valH n ps k0 n0 m0 t0 a0) (valH n ps k1 n1 m1 t1 a1) s:=by
 rw[zc4 (by decide) r,e];unfold zbj stoO;cases s.left with
 |zero=>rfl
 |succ m=>
  simp only[if_true,show(3:Int)=2↔False from by decide,if_false];rw[zf7,zbV];rcases valH n ps k0 n0 m0 t0 a0 {s with left:=m}with z|x
  ·rfl
  ·rcases valH n ps k1 n1 m1 t1 a1 {s with left:=m}with z|y<;>rfl
theorem inv_4 (r:RunT n (.one ps 4 nm args cond body els at_) s h t):(h,t)=inpO n ps nm at_ s:=by
 rw[zc4 (by decide) r];unfold zbj inpO;cases s.left with
 |zero=>rfl
 |succ m=>rfl
theorem zqi {k:Int}(hk:k=5\/k=6){k0 a0 o0 t0 r0}(e:cond= .cons k0 a0 o0 t0 r0)(r:RunT n (.one ps k nm args cond body els at_) s h t):(h,t)=askO (truS n ps k0 a0 o0 t0) (if k=5 then⟨4,0,at_⟩else⟨5,1,at_⟩) s:=by
 have hx:∀l,truH n ps s cond l=truS n ps k0 a0 o0 t0 s l:=λl=>by rw[e];rfl
 unfold askO;cases r with
 |plain a=>omega
 |fault a b c=>rw[hx]at c;rw[c]
 |holds a c=>rw[hx]at c;rw[c]
 |fails a c=>rw[hx]at c;rw[c]
 |yes=>omega
 |no=>omega
 |out a=>omega
 |ask=>omega
 |done=>omega
 |leave=>omega
 |again=>omega
 |give=>omega
 |call=>omega
theorem inv_7 {k0 a0 o0 t0 r0}(e:cond= .cons k0 a0 o0 t0 r0)(r:RunT n (.one ps 7 nm args cond body els at_) s h t):ifD (truS n ps k0 a0 o0 t0) (RunT n (.all ps body)) (RunT n (.all ps els)) s h t:=by
 have hx:∀l,truH n ps s cond l=truS n ps k0 a0 o0 t0 s l:=λl=>by rw[e];rfl
 unfold ifD;cases r with
 |plain a=>omega
 |fault a b c=>rw[hx]at c;rw[c];exact⟨rfl,rfl⟩
 |holds a c=>omega
 |fails a c=>omega
 |yes c d=>rw[hx]at c;rw[c];exact d
 |no c d=>rw[hx]at c;rw[c];exact d
 |out a=>omega
theorem inv_8 {k0 a0 o0 t0 r0}(e:cond= .cons k0 a0 o0 t0 r0)(r:RunT n (.one ps 8 nm args cond body els at_) s h t):lpD (truS n ps k0 a0 o0 t0) (RunT n (.all ps body)) at_ s h t:=by
 have hx:∀s l,truH n ps s cond l=truS n ps k0 a0 o0 t0 s l:=λs l=>by rw[e];rfl
 generalize hT:Tsk.one ps 8 nm args cond body els at_=tsk at r
 induction r with
 |nil=>cases hT
 |next=>cases hT
 |stop=>cases hT
 |plain a=>cases hT;omega
 |fault a b c=>cases hT;omega
 |holds a c=>cases hT;omega
 |fails a c=>cases hT;omega
 |yes=>cases hT
 |no=>cases hT
 |out a b=>cases hT;exact .inl ⟨b,rfl,rfl⟩
 |ask a c=>cases hT;rw[hx]at c;exact .inr ⟨_,a,.ask c⟩
 |done a c=>cases hT;rw[hx]at c;exact .inr ⟨_,a,.done c⟩
 |leave a c d=>cases hT;rw[hx]at c;exact .inr ⟨_,a,.leave c d⟩
 |again a c d _ _ ih=>
  cases hT;rw[hx]at c;rcases ih rfl with⟨z,rfl,rfl⟩|⟨m,hm,hl⟩
  ·exact .inr ⟨_,a,.out c d z⟩
  ·exact .inr ⟨_,a,.again c d hm hl⟩
 |give=>cases hT
 |call=>cases hT
theorem zgc:∀(vs:List Va)(xs:Exs)(s:Bs),vs.length=xs.len->zbu n ps at_ vs xs s=gvO at_ (xsV n ps xs) s
 | [],.nil,s,_=>rfl
 | [],.cons _ _ _ _ _ _,s,h=>by simp[Exs.len]at h
 |_::_,.nil,s,h=>by simp[Exs.len]at h
 |v::vs,.cons k nm m a b q,s,h=>by
  unfold zbu;simp only[xsV,gvO];cases s.left with
  |zero=>rfl
  |succ l=>
   simp only;rw[zbV,zgc vs q {s with left:=l} (by simpa[Exs.len]using h)];rcases valH n ps k nm m b a {s with left:=l}with z|x
   ·rfl
   ·simp only;rcases gvO at_ (xsV n ps q) {s with left:=l}with⟨z|ys,t⟩<;>rfl
theorem inv_9 {p:Prc}(hp:n.procs nm.data.toList=some p)(hl:p.params.length=args.len)(r:RunT n (.one ps 9 nm args cond body els at_) s h t):calD at_ (xsV n ps args) (RunT n (.all (p.params.map (·.nm.data.toList)) p.body)) s h t:=by
 cases r with
 |plain a=>omega
 |fault a b c=>omega
 |holds a c=>omega
 |fails a c=>omega
 |out a b=>exact .inl ⟨b,rfl,rfl⟩
 |give a b c=>
  rw[hp]at b;obtain rfl:=Option.some.inj b;rw[zgc _ _ _ hl]at c;exact .inr ⟨_,a,.inl ⟨_,c,rfl⟩⟩
 |call a b c d=>
  rw[hp]at b;obtain rfl:=Option.some.inj b;rw[zgc _ _ _ hl]at c;exact .inr ⟨_,a,.inr ⟨_,_,_,c,d,rfl⟩⟩
end
def hdS (n:Bn)(kn:List UInt8->Prop)(ps:List (List UInt8))(k:Int)(nm:ByteArray)(args:Exs)(cond:Cds):Prop:=
 (1<=k/\k<=9)/\nm.size<=9223372036854775807/\(k=2\/k=4->InSc n ps nm)/\(k=3->∃i,posI n.arrs nm.data.toList=some i)/\(k=2->args.len=1)/\(k=3->args.len=2)/\(5<=k->k<=8->cond.len=1)/\(k=9->kn nm.data.toList/\∃p,n.procs nm.data.toList=some p/\p.params.length=args.len)
def wfSb (n:Bn)(kn:List UInt8->Prop)(ps:List (List UInt8)):Sts->Prop
 | .nil =>True
 | .cons k nm args cond body els _ r=>hdS n kn ps k nm args cond/\wfX n ps args/\wfCb n ps cond/\wfSb n kn ps body/\wfSb n kn ps els/\wfSb n kn ps r
