/- facetroomref12: the walk of stmts. -/
import Derived.Test.YtmopichdofgndaaGreatDoorJgR2Call
import Derived.Test.YtmopichdofgndaaGreatDoorJnInS
set_option linter.all false
namespace Go.Proofs.YtmopichdofgndaaGreatDoor
open Go.RowKit Go.Shelf Go.Maps
theorem RAtF.own {K:RK}{w w':World}{s:Ist}{v:Value}{fl:Bool}{g:Nat}(h:RAtF K w s v fl)(hf:Fr (λi=>i=g) w w')(hg:K.W0.heap.size<=g)(hP:K.P≠g)(hv:∀i,v.ownBlock=some i->i≠g):RAtF K w' s v fl:=
 h.frT hf (λi e=>by have e:i=g:=e;omega) hP λi hi e=>hv i hi e
theorem zm0 {n:Nms}{nm:ByteArray}(hn:n []=none)(h:nm.data.toList= []):ofN n nm=nm:=by unfold ofN;rw[h,hn];rfl
set_option maxRecDepth 100000 in
set_option maxHeartbeats 6400000 in
theorem zfx (K:RK)(hk:K.Ok)(call:ByteArray->Exs->Nms->Int->Ist->Sts×Ist)(xs:Sts)(Gb:RStI K call xs)(Mn:RCaP K call xs):RC K (inlS call) xs:=by
 intro w s v n A c fs ts Af At cf ct T h Js hn hb Z9 hx;have hl:xs.len<=9223372036854775807:=leq9 hx.1 hx.2.1.1;obtain⟨m,hm⟩:=nmq xs.len;have Hj:=hdq (show RSt K call xs s n w v (.slice none 0 0) [] [] s 0 v w fs ts Af At cf ct T from⟨h,Js,OutRow.nil _ _ _,hn,hb,λb Je=>(hb b Je).1,Fr.refl _ _,SpotP.refl _ _,rfl,lrq _⟩);have MB:=hdq (aiq h.bk.lt h.fr.size);have HK:=hdq hk;have Gs:=hdq Gb;have TY:=hdq Mn;have HX:=hdq hx;have XB:=hdq Z9;rw[<-hm]at hl ⊢;have HM:=hdq hm;obtain⟨nf,P8⟩:=nmq fs.length;obtain⟨nt,P9⟩:=nmq ts.length;rw[<-P8,<-P9];have MC:=hdq (aiq P8 P9);clear hk Gb Mn h Js hn hb hx hm Z9 P8 P9;go_enter Tryz.func32,Tryz.ntmps32;go_wp2_with fail;go_loopw [9,10] (λvo i wr=>∃k:Nat,k<=m/\i= .int .i64 k/\∃(v':Value)(acc:List St)(cs:List Value)(si:Ist),Hid (RSt K call xs s n wr v' vo acc cs si k v w fs ts Af At cf ct T)) (λ_ i _=>m - (intOf i).toNat);case atStart=>exact⟨0,Nat.zero_le _,rfl,_,_,_,_,Hj⟩
 case round=>
  clear Hj;obtain⟨k,hk,rfl,vk,acc,cs,si,hb⟩:=hrel;by_cases Hr:k < m
  rotate_left
  ·have Hl:¬(k:Int) < (m:Int):=by omega
   have hr:inlS call xs n s=(zao acc,si):=by
    rw[<-hb.out.eq,Sts.drop_nil (by rw[<-HM.out];omega)];simp only[inlS,zcj]
   have HR:=hdq hr;clear hr;go_wp2_with fail;go_ret;exact⟨vk,u9,acc,cs,rfl,by rw[HR.out];exact hb.out.st,hb.out.out,by rw[HR.out],hb.out.fr,hb.out.spot,by rw[HR.out];exact hb.out.many,by rw[HR.out];exact hb.out.cm⟩
  have Hl:(k:Int) < (m:Int):=by omega
  have Fb:(0:Int)<=(k:Int):=by omega
  have p4:=hb.out.st.bk.cell 4;have pl:=hb.out.st.bk.lt;simp only[getsL]at p4;obtain⟨a0,a1,a2,a3,a4,a5,a6,ar,hd⟩:=Sts.drop_cons (show k < xs.len from by rw[<-HM.out];exact Hr);have HD:=hdq hd;cases Ja:zaT si with
  |true=>
   have hr:inlS call xs n s=(Sts.app (zao acc) .nil,si):=by
    rw[<-hb.out.eq,HD.out];unfold inlS;rw[if_pos Ja]
   have HR:=hdq hr;rw[Ja]at p4;clear hr Ja hd;go_wp2_with fail;go_ret;exact⟨vk,u9,acc,cs,rfl,by rw[HR.out];exact hb.out.st,hb.out.out,by rw[HR.out,zcj],hb.out.fr,hb.out.spot,by rw[HR.out];exact hb.out.many,by rw[HR.out];exact hb.out.cm⟩
  |false=>
   obtain⟨gb,go,rfl,Hd⟩:=HX.2.2 (by rw[<-HM.out];omega);have Si:=Hd.drop k;rw[hd]at Si;obtain⟨⟨Hf,_,r0,r1,d0,d1,d6⟩,⟨A2,q2,d2,s2⟩,⟨A3,q3,d3,s3⟩,⟨A4,q4,d4,s4⟩,⟨A5,q5,d5,s5⟩,_⟩:=Si;have Km:=HK.low _ Hf;have c0:=(hb.out.st.fr.cell (p:=⟨gb,go+k*7,none⟩) Km id).trans d0;have c1:=(hb.out.st.fr.cell (p:=⟨gb,go+k*7+1,none⟩) Km id).trans d1;have c2:=(hb.out.st.fr.cell (p:=⟨gb,go+k*7+2,none⟩) Km id).trans d2;have c3:=(hb.out.st.fr.cell (p:=⟨gb,go+k*7+3,none⟩) Km id).trans d3;have c4:=(hb.out.st.fr.cell (p:=⟨gb,go+k*7+4,none⟩) Km id).trans d4;have c5:=(hb.out.st.fr.cell (p:=⟨gb,go+k*7+5,none⟩) Km id).trans d5;have c6:=(hb.out.st.fr.cell (p:=⟨gb,go+k*7+6,none⟩) Km id).trans d6;have Gf:gb < wr.heap.size:=ltq (HK.low _ Hf) hb.out.st.fr.size;obtain⟨l2,Gl⟩:=nmq a2.len;obtain⟨l3,Gz⟩:=nmq a3.len;obtain⟨l4,Gy⟩:=nmq a4.len;obtain⟨l5,GN⟩:=nmq a5.len;rw[<-Gl]at c2;rw[<-Gz]at c3;rw[<-Gy]at c4;rw[<-GN]at c5;rw[Ja]at p4;obtain⟨w5,GE⟩:=nmq (wr.alloc (.cells #[.int .u8 a0,.string a1,.slice A2 l2 q2,.slice A3 l3 q3,.slice A4 l4 q4,.slice A5 l5 q5,.int .i64 a6] 39));have Hs:Fr NoT wr w5:=by rw[GE];exact(Fr.refl _ _).alloc _
   have Hm:Bk w5 wr.heap.size 39 #[.int .u8 a0,.string a1,.slice A2 l2 q2,.slice A3 l3 q3,.slice A4 l4 q4,.slice A5 l5 q5,.int .i64 a6]:=by rw[GE];exact Bk.new _ _ _
   obtain⟨Zm,Zn,hG⟩:=Gs k a0 a1 a2 a3 a4 a5 a6 ar hd;have HP:=hdq (aiq s2 (aiq s3 (aiq s4 (aiq s5 (aiq Zm (aiq Zn (aiq hG (aiq r0 r1))))))));have HL:=hdq (aiq Gl (aiq Gz (aiq Gy GN)));have JD:=hdq GE;have Hx:=hdq Hs;have GO:=hdq Hm;have QL:=hdq Ja;have hH:RAtF K w5 si vk false:=by have:=hb.out.st.fr0 Hs;rw[<-Ja];exact this
   have qV:=hdq hH;have Xm:=hdq (hb.out.nms.keep (λ_ h=>h) (Hs.same λb h=>⟨(hb.out.nb b h).1,id⟩));clear Hd Hf s2 s3 s4 s5 d0 d1 d2 d3 d4 d5 d6 Zm Zn hG r0 r1 Gl Gz Gy GN hd GE Hs Hm Km Ja hH;by_cases h9:a0=9
   ·-- <C9>
    subst h9;have t0:=GO.cell 0;have tl:=GO.lt;have t1:=GO.cell 1;have t2:=GO.cell 2;have t3:=GO.cell 3;have t4:=GO.cell 4;have t5:=GO.cell 5;have t6:=GO.cell 6;simp only[getsL]at t0 t1 t2 t3 t4 t5 t6;have hI:RB K vk w5 T:=λb h=>⟨ltq (hb.out.nb b h).1 Hx.size,(hb.out.nb b h).2.1,(hb.out.nb b h).2.2⟩;have T6:=TY k a1 a2 a3 a4 a5 a6 ar HD.out w5 si vk n A2 q2 (.slice A3 l3 q3) (.slice A4 l4 q4) (.slice A5 l5 q5) fs ts Af At cf ct T (hb.out.st.fr0 Hx.out) hb.out.cm QL.out Xm.out hI XB.out HP.1 HP.2.2.2.2.2.2.2.2;rw[<-HL.1,<-MC.1,<-MC.2]at T6;have T6:=hdq T6;rw[JD.out]at t0 t1 t2 t3 t4 t5 t6 tl;go_wp2_with fail;rw[<-JD.out];refine T6.mono ?_;rintro _ w7 ⟨v7,vo7,EN,cs7,rfl,h7,N3,Qi,Gw,KB,MN,Qj⟩;have JR:=(hb.out.out.fr0 Hx.out).keep Gw KB MB.1;have TL:w.heap.size<=w5.heap.size:=leq9 hb.out.fr.size Hx.size;have Wq:w.heap.size<=w7.heap.size:=leq9 TL Gw.size;have Fx:∀i,u9.ownBlock=some i->i < w5.heap.size:=λi hi=>ltq (zaf hb.out.out.row hi).2 Hx.size;have Zp:∀i,v7.ownBlock=some i->i < w7.heap.size:=λi hi=>by obtain⟨c9,h9,_⟩:=h7.row;exact(zaf h9 hi).2
    have WM:acc.length+EN.length<=1000000:=by have h8:=h7.most.1;have h9:=hb.out.many;omega
    have HO:=hdq (aiq JR (aiq N3 (aiq Fx Zp)));have H7:=hdq (aiq h7 (aiq Qi (aiq Gw (aiq KB (aiq MN Qj)))));clear JR N3 Fx Zp h7 Qi Gw KB MN Qj t0 t1 t2 t3 t4 t5 t6 tl hI c0 c1 c2 c3 c4 c5 c6 p4 pl Gf;go_wp2_with (at_builtin;refine zcb rfl _ _ rfl rfl rfl HO.1 HO.2.1 TL HO.2.2.1 Wq WM HO.2.2.2 ?_);intro vo8 w8 Kb Gj Ng;have hT:∀i,u9.ownBlock=some i->w.heap.size<=i:=λi hi=>(zaf HO.1.row hi).1;have GU:∀i,u9.ownBlock=some i->v7.ownBlock≠some i:=λi hi=>HO.1.ne i hi;obtain⟨h7,Qi,Gw,KB,MN,Qj⟩:=H7.out;have TW:=MB.2;have XK:=MB.1;have F8:=hdq (show RSt K call xs s n w8 v7 vo8 (acc++EN) (cs++cs7) (call a1 a2 n a6 si).2 (k+1) v w fs ts Af At cf ct T from
     ⟨h7.frT Gj (λi hi=>by have:=hT i hi;omega) (λe=>by have:=hT _ e;omega) (λi hi e=>GU i e hi),Qj,Kb,
      (Xm.keep (λ_ h=>h) (Gw.same λb h=>⟨ltq (hb.out.nb b h).1 Hx.size,λe=>by
       rcases e with e|e
       ·exact(hb.out.nb b h).2.1 e
       ·exact(hb.out.nb b h).2.2 e⟩)).keep (λ_ h=>h) (Gj.same λb h=>⟨by have:=hb.out.tw b h;omega,λe=>by have:=hT _ e;have:=hb.out.tw b h;omega⟩),
      (λb h=>⟨by have:=hb.out.tw b h;have:=Gj.size;omega,(hb.out.nb b h).2.1,λe=>by
       rcases KB with k9|⟨g9,k9,FI⟩
       ·exact(hb.out.nb b h).2.2 (k9▸e)
       ·rw[k9]at e;have:=Option.some.inj e;have:w5.heap.size<=g9:=FI;have:=hb.out.tw b h;omega⟩),
      hb.out.tw,
      Fr.thenT (Fr.thenT (hb.out.fr.trans Hx.any) Gw λi hi e=>by
       rcases e with e|e
       ·exact Or.inl e
       ·rcases hb.out.spot with k9|⟨g9,k9,FI⟩
        ·exact Or.inr (k9▸e)
        ·rw[k9]at e;have:=Option.some.inj e;omega) Gj λi hi e=>by have:=hT i e;omega,
      hb.out.spot.trans KB TL,by
       rw[zbb,zbs,<-hb.out.eq,HD.out,Sts.drop_succ k xs HD.out]
       conv=>rhs;unfold inlS
       rw[if_neg (by rw[QL.out];simp),if_pos rfl,<-Qi],by rw[List.length_append];have:=hb.out.many;omega⟩)
    clear Kb Gj Ng hT GU h7 Qi Gw KB MN Qj TW XK;go_wp2_with fail;go_roundw;case rel=>exact⟨k+1,by omega,by go_num,_,_,_,_,F8⟩
    case measure=>simp[intOf];omega
    -- </C9>
   ·have Ya:(a0==9)=false:=by simpa using h9
    have Sk:si.many<=256:=by
     have h2:=QL.out;unfold zaT at h2;simp only[Bool.or_eq_false_iff,decide_eq_false_iff_not]at h2;omega
    have Js:=hb.out.cm;have K0:=hdq (zgh K w5 si vk 1 qV.out ⟨by omega,by omega⟩);have yY:K.P≠wr.heap.size:=λe=>by have:=MB.1;have:=hb.out.fr.size;omega
    have Vo:=hdq yY;have yZ:K.W0.heap.size<=wr.heap.size:=hb.out.st.fr.size;have hJ:=hdq yZ;have Rg:=hdq (show ∀i,vk.ownBlock=some i->i≠wr.heap.size from λi hi e=>by obtain⟨c9,h9,_⟩:=hb.out.st.row;have:=(zaf h9 hi).2;omega);clear yY yZ;go_wp2_with fail;rw[<-JD.out];clear c0 c1 c2 c3 c4 c5 c6 Gf JD p4 pl;refine K0.mono ?_;rintro _ w7 ⟨rfl,hY,Gw⟩;have GK:=GO.fr Gw (λe=>Vo e.symm);have t0:=GK.cell 0;have t1:=GK.cell 1;have tf:=GK.frozen 1;have tl:=GK.lt;simp only[getsL]at t0 t1;have Te:=Xm.keep (λ_ h=>h) (Gw.same λb h=>⟨ltq (hb.out.nb b h).1 Hx.size,λe=>(hb.out.nb b h).2.1 e⟩);have y9:∀b,T b->b < w7.heap.size:=λb h=>ltq (ltq (hb.out.nb b h).1 Hx.size) Gw.size;have Xn:=zd0 n fs ts Af At cf ct T a1 w7 Te y9;rw[<-MC.1,<-MC.2]at Xn;have hZ:=hdq Xn;obtain⟨DL,Fi⟩:=nmq (if a0=3 then a1 else ofN n a1);have F4:=hdq Fi;have Pd:((a0==2)=true/\Hid (DL=ofN n a1))\/((a0==2)=false/\(a0==4)=true/\Hid (DL=ofN n a1))\/((a0==2)=false/\(a0==4)=false/\Hid (DL=a1)):=by
     by_cases e2:a0=2
     ·exact .inl ⟨by simpa using e2,by rw[Fi,if_neg (by omega)];exact hdq rfl⟩
     ·by_cases e4:a0=4
      ·exact .inr (.inl ⟨by simpa using e2,by simpa using e4,by rw[Fi,if_neg (by omega)];exact hdq rfl⟩)
      ·refine .inr (.inr ⟨by simpa using e2,by simpa using e4,?_⟩);by_cases e3:a0=3
       ·rw[Fi,if_pos e3];exact hdq rfl
       ·rw[Fi,if_neg e3];refine hdq (zm0 XB.out ?_);rcases HP.2.2.2.2.2.2.1 with h|h|h|h|h
        ·exact absurd h e2
        ·exact absurd h e3
        ·exact absurd h e4
        ·exact absurd h h9
        ·exact h
    have H7:=hdq (show RkAt K w7 ⟨si.calls,si.vars,si.many+1⟩ vk/\Fr (λi=>i=K.P\/i=wr.heap.size) wr w7/\Bk w7 wr.heap.size 39 #[.int .u8 a0,.string a1,.slice A2 l2 q2,.slice A3 l3 q3,.slice A4 l4 q4,.slice A5 l5 q5,.int .i64 a6]/\NmR w7 T n fs ts Af cf At ct/\wr.heap.size < w7.heap.size from
     ⟨hY,(Hx.any.trans Gw:Fr (λi=>i=K.P) wr w7).mono λ_ _ e=> .inl e,GK,Te,tl⟩)
    clear hY Gw GK Te y9 Xn Fi Sk Js;rcases Pd with⟨e2,PB⟩|⟨e2,e4,PB⟩|⟨e2,e4,PB⟩
    case' inl=>
     go_wp2_with fail;go_at_call 94;refine hZ.mono ?_;rintro _ wz ⟨rfl,MM⟩;rw[MM,<-PB.out];clear MM wz;obtain⟨w8,GG⟩:=nmq (w7.setCell ⟨wr.heap.size,1,none⟩ (.string DL));have Gj:Fr (λi=>i=wr.heap.size) w7 w8:=by rw[GG];exact Fr.own (Fr.refl _ _) _ _
     have H8:=hdq (show RkAt K w8 ⟨si.calls,si.vars,si.many+1⟩ vk/\Fr (λi=>i=K.P\/i=wr.heap.size) wr w8/\Bk w8 wr.heap.size 39 #[.int .u8 a0,.string DL,.slice A2 l2 q2,.slice A3 l3 q3,.slice A4 l4 q4,.slice A5 l5 q5,.int .i64 a6]/\NmR w8 T n fs ts Af cf At ct/\wr.heap.size < w8.heap.size from
      ⟨H7.1.own Gj hJ.out Vo.out Rg.out,H7.2.1.trans (Gj.mono λ_ _ e=> .inr e),by have:=H7.2.2.1.set_ 1 (.string DL);rw[GG];simpa using this,H7.2.2.2.1.keep (λ_ h=>h) (Gj.same λb h=>⟨ltq (hb.out.nb b h).1 H7.2.1.size,λe=>by have e:b=wr.heap.size:=e;have:=(hb.out.nb b h).1;omega⟩),ltq H7.2.2.2.2 Gj.size⟩)
     have K8:=hdq GG;have v2:=H8.2.2.1.cell 2;have vf2:=H8.2.2.1.frozen 2;have vl:=H8.2.2.1.lt;simp only[getsL]at v2;rw[GG]at v2 vl;clear GG Gj;go_wp2_with fail;rw[<-K8.out];clear t0 t1 tf tl v2 vf2 vl K8
    case' inr.inl=>
     go_wp2_with fail;go_at_call 94;refine hZ.mono ?_;rintro _ wz ⟨rfl,MM⟩;rw[MM,<-PB.out];clear MM wz;obtain⟨w8,GG⟩:=nmq (w7.setCell ⟨wr.heap.size,1,none⟩ (.string DL));have Gj:Fr (λi=>i=wr.heap.size) w7 w8:=by rw[GG];exact Fr.own (Fr.refl _ _) _ _
     have H8:=hdq (show RkAt K w8 ⟨si.calls,si.vars,si.many+1⟩ vk/\Fr (λi=>i=K.P\/i=wr.heap.size) wr w8/\Bk w8 wr.heap.size 39 #[.int .u8 a0,.string DL,.slice A2 l2 q2,.slice A3 l3 q3,.slice A4 l4 q4,.slice A5 l5 q5,.int .i64 a6]/\NmR w8 T n fs ts Af cf At ct/\wr.heap.size < w8.heap.size from
      ⟨H7.1.own Gj hJ.out Vo.out Rg.out,H7.2.1.trans (Gj.mono λ_ _ e=> .inr e),by have:=H7.2.2.1.set_ 1 (.string DL);rw[GG];simpa using this,H7.2.2.2.1.keep (λ_ h=>h) (Gj.same λb h=>⟨ltq (hb.out.nb b h).1 H7.2.1.size,λe=>by have e:b=wr.heap.size:=e;have:=(hb.out.nb b h).1;omega⟩),ltq H7.2.2.2.2 Gj.size⟩)
     have K8:=hdq GG;have v2:=H8.2.2.1.cell 2;have vf2:=H8.2.2.1.frozen 2;have vl:=H8.2.2.1.lt;simp only[getsL]at v2;rw[GG]at v2 vl;clear GG Gj;go_wp2_with fail;rw[<-K8.out];clear t0 t1 tf tl v2 vf2 vl K8
    case' inr.inr=>
     obtain⟨w8,GG⟩:=nmq w7;have H8:=hdq (show RkAt K w8 ⟨si.calls,si.vars,si.many+1⟩ vk/\Fr (λi=>i=K.P\/i=wr.heap.size) wr w8/\Bk w8 wr.heap.size 39 #[.int .u8 a0,.string DL,.slice A2 l2 q2,.slice A3 l3 q3,.slice A4 l4 q4,.slice A5 l5 q5,.int .i64 a6]/\NmR w8 T n fs ts Af cf At ct/\wr.heap.size < w8.heap.size from by
      rw[GG,PB.out];exact H7.out)
     have t2:=H7.2.2.1.cell 2;simp only[getsL]at t2;have K8:=hdq GG;clear GG;go_wp2_with fail;rw[<-K8.out];clear t0 t1 t2 tf tl K8
    all_goals
     have Fv:=zck a2 n w8 K.S False A2 q2 fs ts Af At cf ct T (λb h=>ltq (HK.low b h) H8.1.fr.size) (λb h=>by have:=(hb.out.nb b h).1;have:=H8.2.2.2.2;omega) H8.2.2.2.1 (HP.1.imp λ_ _ hx=>ExR.keep (H8.1.fr.same λb h=>⟨HK.low b h,id⟩) hx);rw[<-HL.1,<-MC.1,<-MC.2]at Fv;have gV:=hdq Fv;clear Fv;go_at_call 95;refine gV.mono ?_;rintro _ x9 ⟨X2,x2,rfl,sx,fx⟩;rw[zaC]at sx ⊢;rw[<-HL.1];have kx:=H8.2.2.1.fr0 fx;have y0:=kx.cell 0;have y1:=kx.cell 1;have y2:=kx.cell 2;have y3:=kx.cell 3;have y4:=kx.cell 4;have y5:=kx.cell 5;have y6:=kx.cell 6;have yf:=kx.frozen 2;have yl:=kx.lt;simp only[getsL]at y0 y1 y2 y3 y4 y5 y6;obtain⟨w9,hw⟩:=nmq (x9.setCell ⟨wr.heap.size,2,none⟩ (.slice X2 l2 x2));have FO:Fr (λi=>i=wr.heap.size) x9 w9:=by rw[hw];exact Fr.own (Fr.refl _ _) _ _
     have GH:Fr (λi=>i=wr.heap.size) w8 w9:=fx.any.trans FO;have H9:=hdq (show RkAt K w9 ⟨si.calls,si.vars,si.many+1⟩ vk/\Fr (λi=>i=K.P\/i=wr.heap.size) wr w9/\Bk w9 wr.heap.size 39 #[.int .u8 a0,.string DL,.slice X2 l2 x2,.slice A3 l3 q3,.slice A4 l4 q4,.slice A5 l5 q5,.int .i64 a6]/\NmR w9 T n fs ts Af cf At ct/\wr.heap.size < w9.heap.size from
      ⟨H8.1.own GH hJ.out Vo.out Rg.out,H8.2.1.trans (GH.mono λ_ _ e=> .inr e),by have:=kx.set_ 2 (.slice X2 l2 x2);rw[hw];simpa using this,H8.2.2.2.1.keep (λ_ h=>h) (GH.same λb h=>⟨ltq (hb.out.nb b h).1 H8.2.1.size,λe=>by have e:b=wr.heap.size:=e;have:=(hb.out.nb b h).1;omega⟩),ltq H8.2.2.2.2 GH.size⟩)
     have S9:=hdq (show SlR (λb o=>ExR w9 (New w8.heap.size w9) True (zar n a2) b o) a2.len 64 X2 x2 from sx.imp λ_ _ h=>ExR.more (λb hb=>⟨hb.1,ltq hb.2 FO.size⟩) (ExR.keep (FO.same λb hb=>⟨hb.2,λe=>by have e:b=wr.heap.size:=e;have h1:=hb.1;have:=H8.2.2.2.2;omega⟩) h));have F9:=hdq GH;have NL:=hdq hw;clear sx fx kx FO GH hw;go_wp2_with fail;rw[<-NL.out];clear y0 y1 y2 y3 y4 y5 y6 yf yl;have Ls:=zgU a3 n w9 K.S False A3 q3 fs ts Af At cf ct T (λb h=>ltq (HK.low b h) H9.1.fr.size) (λb h=>by have:=(hb.out.nb b h).1;have:=H9.2.2.2.2;omega) H9.2.2.2.1 (HP.2.1.imp λ_ _ hx=>CdR.keep (H9.1.fr.same λb h=>⟨HK.low b h,id⟩) hx);rw[<-HL.2.1,<-MC.1,<-MC.2]at Ls;have gW:=hdq Ls;clear Ls;go_at_call 96;refine gW.mono ?_;rintro _ x10 ⟨X3,x3,rfl,sx,fx⟩;rw[zaO]at sx ⊢;rw[<-HL.2.1];have kx:=H9.2.2.1.fr0 fx;have y0:=kx.cell 0;have y1:=kx.cell 1;have y2:=kx.cell 2;have y3:=kx.cell 3;have y4:=kx.cell 4;have y5:=kx.cell 5;have y6:=kx.cell 6;have yf:=kx.frozen 3;have yl:=kx.lt;simp only[getsL]at y0 y1 y2 y3 y4 y5 y6;obtain⟨DI,hw⟩:=nmq (x10.setCell ⟨wr.heap.size,3,none⟩ (.slice X3 l3 x3));have FO:Fr (λi=>i=wr.heap.size) x10 DI:=by rw[hw];exact Fr.own (Fr.refl _ _) _ _
     have GH:Fr (λi=>i=wr.heap.size) w9 DI:=fx.any.trans FO;have Tg:=hdq (show RkAt K DI ⟨si.calls,si.vars,si.many+1⟩ vk/\Fr (λi=>i=K.P\/i=wr.heap.size) wr DI/\Bk DI wr.heap.size 39 #[.int .u8 a0,.string DL,.slice X2 l2 x2,.slice X3 l3 x3,.slice A4 l4 q4,.slice A5 l5 q5,.int .i64 a6]/\NmR DI T n fs ts Af cf At ct/\wr.heap.size < DI.heap.size from
      ⟨H9.1.own GH hJ.out Vo.out Rg.out,H9.2.1.trans (GH.mono λ_ _ e=> .inr e),by have:=kx.set_ 3 (.slice X3 l3 x3);rw[hw];simpa using this,H9.2.2.2.1.keep (λ_ h=>h) (GH.same λb h=>⟨ltq (hb.out.nb b h).1 H9.2.1.size,λe=>by have e:b=wr.heap.size:=e;have:=(hb.out.nb b h).1;omega⟩),ltq H9.2.2.2.2 GH.size⟩)
     have S10:=hdq (show SlR (λb o=>CdR DI (New w9.heap.size DI) True (zaJ n a3) b o) a3.len 64 X3 x3 from sx.imp λ_ _ h=>CdR.more (λb hb=>⟨hb.1,ltq hb.2 FO.size⟩) (CdR.keep (FO.same λb hb=>⟨hb.2,λe=>by have e:b=wr.heap.size:=e;have h1:=hb.1;have:=H9.2.2.2.2;omega⟩) h));have F10:=hdq GH;have Xo:=hdq hw;clear sx fx kx FO GH hw;go_wp2_with fail;rw[<-Xo.out];clear y0 y1 y2 y3 y4 y5 y6 yf yl;have ga:si.calls<=si.many+1:=by have:=hb.out.cm;omega
     have Ks:=hdq (show Calls Tryz.prog 32 #[.pointer (some ⟨K.P,0,none⟩),.slice A4 l4 q4,.slice Af nf cf,.slice At nt ct] DI (RP K (inlS call a4 n ⟨si.calls,si.vars,si.many+1⟩) ⟨si.calls,si.vars,si.many+1⟩ DI vk)from by
      have h:=HP.2.2.2.2.1 DI ⟨si.calls,si.vars,si.many+1⟩ vk n A4 q4 fs ts Af At cf ct T Tg.1 ga Tg.2.2.2.1 (λb h=>⟨by have:=(hb.out.nb b h).1;have:=Tg.2.2.2.2;omega,(hb.out.nb b h).2.1,(hb.out.nb b h).2.2⟩) XB.out HP.2.2.1;rw[<-HL.2.2.1,<-MC.1,<-MC.2]at h;exact h)
     clear ga;go_at_call 32;refine Ks.mono ?_;rintro _ x12 ⟨v12,vo12,DG,cs12,rfl,RJ,gc,Nc,fx12,Jb,LD,QO⟩;have SR:DG.length*128<=140737488355328:=by have:=RJ.most.1;simp only at LD;omega
     obtain⟨B4,EF,PX,sb12⟩:=gc.slice SR;subst PX;have U6:¬RT K vk wr.heap.size:=λe=>by
      rcases e with e|e
      ·exact Vo e.symm
      ·exact Rg _ e rfl
     have kx:=Tg.2.2.1.fr fx12 U6;have y4:=kx.cell 4;have y5:=kx.cell 5;have yf:=kx.frozen 4;have yl:=kx.lt;simp only[getsL]at y4 y5;obtain⟨DN,hw⟩:=nmq (x12.setCell ⟨wr.heap.size,4,none⟩ (.slice B4 DG.length EF));have FO:Fr (λi=>i=wr.heap.size) x12 DN:=by rw[hw];exact Fr.own (Fr.refl _ _) _ _
     have Mh:∀i,v12.ownBlock=some i->i≠wr.heap.size:=λi hi e=>by
      rcases Jb with k9|⟨g9,k9,FI⟩
      ·exact Rg i (k9▸hi) e
      ·rw[k9]at hi;have:=Option.some.inj hi;have:DI.heap.size<=g9:=FI;have:=Tg.2.2.2.2;omega
     have GH:Fr (λi=>RT K vk i\/i=wr.heap.size) DI DN:=(fx12.mono λ_ _ e=>Or.inl e).trans (FO.mono λ_ _ e=>Or.inr e);have Qn:Bk DN wr.heap.size 39 #[.int .u8 a0,.string DL,.slice X2 l2 x2,.slice X3 l3 x3,.slice B4 DG.length EF,.slice A5 l5 q5,.int .i64 a6]:=by have:=kx.set_ 4 (.slice B4 DG.length EF);rw[hw];simpa using this
     have T3:=(Qn.cell 5);have qW:=Qn.lt;have uv:=HP.2.2.2.2.2.2.2;have Xp:NmR DN T n fs ts Af cf At ct:=Tg.2.2.2.1.keep (λ_ h=>h) (GH.same λb h=>⟨ltq (hb.out.nb b h).1 Tg.2.1.size,λe=>by
      rcases e with(e|e)|e
      ·exact(hb.out.nb b h).2.1 e
      ·exact(hb.out.nb b h).2.2 e
      ·have:=(hb.out.nb b h).1;omega⟩)
     have Vp:RB K v12 DN T:=λb h=>⟨by have:=(hb.out.nb b h).1;omega,(hb.out.nb b h).2.1,λe=>by
      rcases Jb with k9|⟨g9,k9,FI⟩
      ·exact(hb.out.nb b h).2.2 (k9▸e)
      ·rw[k9]at e;have:=Option.some.inj e;have:DI.heap.size<=g9:=FI;have:=Tg.2.2.2.2;have:=(hb.out.nb b h).1;omega⟩
     have Vq:=RJ.own FO hJ.out Vo.out Mh;have UO:=hdq (show Calls Tryz.prog 32 #[.pointer (some ⟨K.P,0,none⟩),.slice A5 l5 q5,.slice Af nf cf,.slice At nt ct] DN (RP K (inlS call a5 n (inlS call a4 n ⟨si.calls,si.vars,si.many+1⟩).2) (inlS call a4 n ⟨si.calls,si.vars,si.many+1⟩).2 DN v12)from by
       have h:=HP.2.2.2.2.2.1 DN _ v12 n A5 q5 fs ts Af At cf ct T Vq QO Xp Vp XB.out HP.2.2.2.1;rw[<-HL.2.2.2,<-MC.1,<-MC.2]at h;exact h)
     have S12:=hdq (show SlR (λb o=>StR DN (λi=>DI.heap.size<=i/\i < DN.heap.size/\v12.ownBlock≠some i) True (zao DG) b o) DG.length 128 B4 EF from sb12.imp λ_ _ h=>StR.more (λi hi=>⟨hi.1,ltq hi.2.1 FO.size,hi.2.2⟩) (StR.keep (FO.same λi hi=>⟨hi.2.1,λe=>by have e:i=wr.heap.size:=e;have h1:=hi.1;have:=Tg.2.2.2.2;omega⟩) h));have MV:=hdq (aiq Nc (aiq GH (aiq Jb (aiq LD (aiq QO (aiq Qn SR))))));have qX:=hdq Mh;have qY:=hdq hw;clear RJ gc Nc fx12 Jb LD QO SR sb12 kx hw FO GH Mh T3 qW uv Xp Vp Vq Qn;go_wp2_with fail;rw[<-qY.out];clear y4 y5 yf yl;go_at_call 32;refine UO.mono ?_;rintro _ DQ ⟨DV,vo13,DH,cs13,rfl,QJ,gd,Nd,E3,Jv,PW,Nf⟩;have Vr:DH.length*128<=140737488355328:=by have:=QJ.most.1;omega
     obtain⟨B5,e5',PX,sb13⟩:=gd.slice Vr;subst PX;have U6:¬RT K v12 wr.heap.size:=λe=>by
      rcases e with e|e
      ·exact Vo e.symm
      ·exact qX _ e rfl
     have kx:=MV.2.2.2.2.2.1.fr E3 U6;have yl:=kx.lt;have yf:=kx.frozen 5;obtain⟨DY,hw⟩:=nmq (DQ.setCell ⟨wr.heap.size,5,none⟩ (.slice B5 DH.length e5'));have FW:Fr (λi=>i=wr.heap.size) DQ DY:=by rw[hw];exact Fr.own (Fr.refl _ _) _ _
     have JL:Bk DY wr.heap.size 39 #[.int .u8 a0,.string DL,.slice X2 l2 x2,.slice X3 l3 x3,.slice B4 DG.length EF,.slice B5 DH.length e5',.int .i64 a6]:=by have:=kx.set_ 5 (.slice B5 DH.length e5');rw[hw];simpa using this
     have j0:=JL.cell 0;have j1:=JL.cell 1;have j2:=JL.cell 2;have j3:=JL.cell 3;have j4:=JL.cell 4;have j5:=JL.cell 5;have j6:=JL.cell 6;have jl:=JL.lt;simp only[getsL]at j0 j1 j2 j3 j4 j5 j6;obtain⟨DR,Ni⟩:=nmq (DY.alloc (.cells #[.int .u8 a0,.string DL,.slice X2 l2 x2,.slice X3 l3 x3,.slice B4 DG.length EF,.slice B5 DH.length e5',.int .i64 a6] 39));have Fq:Fr NoT DY DR:=by rw[Ni];exact(Fr.refl _ _).alloc _
     have Nj:Bk DR DY.heap.size 39 ([.int .u8 a0,.string DL,.slice X2 l2 x2,.slice X3 l3 x3,.slice B4 DG.length EF,.slice B5 DH.length e5',.int .i64 a6]:List Value).toArray :=by rw[Ni];exact Bk.new _ _ _
     have MM:DY.heap.size=DQ.heap.size:=by rw[hw];simp
     rw[MM]at Nj;obtain⟨i0,RZ,Fe,Lh,R0⟩:=info_parts zej;have HI:=hdq (aiq RZ (aiq Fe (aiq Lh R0)));have G8:∀i,u9.ownBlock=some i->¬RT K vk i/\¬RT K v12 i/\¬i=wr.heap.size:=λi hi=>by
      have h1:=zaf hb.out.out.row hi;have hh:¬RT K vk i:=λe=>by
       rcases e with e|e
       ·have:=MB.1;omega
       ·exact hb.out.out.ne i hi e
      refine⟨hh,λe=>?_,by omega⟩;rcases e with e|e
      ·have:=MB.1;omega
      ·rcases MV.2.2.1 with k9|⟨g9,k9,FI⟩
       ·exact hh (.inr (k9▸e))
       ·rw[k9]at e;have:=Option.some.inj e;have:DI.heap.size<=g9:=FI;have:=Tg.2.2.2.2;omega
     have Mo:=zag (zag (zag (zag (zag (zag (zag hb.out.out.row H8.2.1 λi hi e=>(by
      rcases e with e|e
      ·exact(G8 i hi).1 (.inl e)
      ·exact(G8 i hi).2.2 e)) F9.out λi hi=>(G8 i hi).2.2) F10.out λi hi=>(G8 i hi).2.2) MV.2.1 λi hi e=>(by
      rcases e with e|e
      ·exact(G8 i hi).1 e
      ·exact(G8 i hi).2.2 e)) E3 λi hi=>(G8 i hi).2.1) FW λi hi=>(G8 i hi).2.2) Fq λ_ _=>id
     have WP:w.heap.size<=DR.heap.size:=by have h1:=hb.out.fr.size;have h2:=jl;have h3:=Fq.size;omega
     have Jt:acc.length<=261:=by have:=hb.out.many;have:=hb.out.st.most.1;omega
     have PZ:=hdq Mo;have MG:=hdq Nj;have WQ:=hdq FW;have T8:=hdq Fq;have WR:=hdq Ni;have qZ:=hdq hw;have Pq:=hdq (aiq QJ (aiq Nd (aiq E3 (aiq Jv (aiq PW (aiq Nf sb13))))));have y5:=kx.cell 5;simp only[getsL]at y5;rw[hw]at j0 j1 j2 j3 j4 j5 j6 jl;clear Mo Nj FW Fq Ni JL hw G8 RZ Fe Lh R0 QJ gd Nd E3 Jv PW Nf Vr sb13 kx U6 MM;go_wp2_with (at_builtin;rw[<-qZ.out];rw[<-WR.out];refine zat _ rfl _ _ 25 rfl w.heap.size 39 i0 (.agg zdx) 7 128 Tryz.underlying25 HI.1 HI.2.1 HI.2.2.1 HI.2.2.2 rfl (by decide) u9 acc.length cs rfl PZ.out ⟨DQ.heap.size,0,none⟩ 1 1 _ rfl rfl MG.newsL ?c2 ?c63 ?cby WP ?_);case c2=>
      intro u hu;simp only[List.mem_cons,List.not_mem_nil,or_false]at hu;rcases hu with rfl|rfl|rfl|rfl|rfl|rfl|rfl<;>rfl
     case c63=>unfold maxLen;omega
     case cby=>omega
     intro vo16 Ee KC So N4;rw[HL.1,HL.2.1]at KC;have QP:=S9.out;have QQ:=S10.out;have F8:=hdq (RSt.next hb.out MB.out HD.out QL.out h9 F4.out HP.2.2.2.2.2.2.2.1 HP.2.2.2.2.2.2.2.2 H8.2.1 H8.2.2.2.2 F9.out F10.out (Fr.refl _ _) QP QQ rfl rfl rfl MV.1 Pq.2.1 MV.2.1 MV.2.2.1 S12.out MV.2.2.2.1 Pq.1 Pq.2.2.1 Pq.2.2.2.1 Pq.2.2.2.2.2.2 Pq.2.2.2.2.1 Pq.2.2.2.2.2.1 WQ.out T8.out KC So N4);clear KC So N4 QP QQ hb j0 j1 j2 j3 j4 j5 j6 jl y5 yf yl;go_wp2_with fail;go_roundw;case rel=>exact⟨k+1,by omega,by go_num,_,_,_,_,F8⟩
     case measure=>simp[intOf];omega
theorem zgY {procs:List UInt8->Option Prc}{low:Sts->Prop}:∀(i:Nat) {xs:Sts} {a0:Int} {a1:ByteArray} {a2:Exs} {a3:Cds} {a4 a5:Sts} {a6:Int} {ar:Sts},LvB procs low xs->Sts.drop i xs= .cons a0 a1 a2 a3 a4 a5 a6 ar->
  (a0=9->∃x,procs a1.data.toList=some x/\x.params.length=a2.len/\low x.body)
 |0,.cons _ _ _ _ _ _ _ _,_,_,_,_,_,_,_,_,h,hd=>by
  simp only[Sts.drop]at hd;cases hd;exact h.1
 |0,.nil,_,_,_,_,_,_,_,_,_,hd=>by simp[Sts.drop]at hd
 |i+1,.nil,_,_,_,_,_,_,_,_,_,hd=>by simp[Sts.drop]at hd
 |i+1,.cons _ _ _ _ _ _ _ _,_,_,_,_,_,_,_,_,h,hd=>by
  simp only[Sts.drop]at hd;exact zgY i h.2.2.2 hd
theorem zdl {K:RK}(hk:K.Ok){call:ByteArray->Exs->Nms->Int->Ist->Sts×Ist}{low:Sts->Prop}(Mn:∀xs,LvB K.procs low xs->nmOk xs->RCaP K call xs):∀(xs:Sts),LvB K.procs low xs->nmOk xs->RStI K call xs
 | .nil,_,_,i,_,_,_,_,_,_,_,_,h=>by cases i<;>simp[Sts.drop]at h
 | .cons k nm args cond body els at_ r,hl,hz,0,a0,a1,a2,a3,a4,a5,a6,ar,h=>by
  simp only[Sts.drop,Sts.cons.injEq]at h;obtain⟨rfl,rfl,rfl,rfl,rfl,rfl,_,_⟩:=h;exact⟨zfx K hk call _ (zdl hk Mn _ hl.2.1 hz.2.1) (Mn _ hl.2.1 hz.2.1),zfx K hk call _ (zdl hk Mn _ hl.2.2.1 hz.2.2.1) (Mn _ hl.2.2.1 hz.2.2.1),hz.1⟩
 | .cons k nm args cond body els at_ r,hl,hz,i+1,a0,a1,a2,a3,a4,a5,a6,ar,h=>by
  simp only[Sts.drop]at h;exact zdl hk Mn r hl.2.2.2 hz.2.2.2 i a0 a1 a2 a3 a4 a5 a6 ar h
theorem zku {K:RK}(hk:K.Ok){call:ByteArray->Exs->Nms->Int->Ist->Sts×Ist}{low:Sts->Prop}(Mn:∀xs,LvB K.procs low xs->nmOk xs->RCaP K call xs)(xs:Sts)(hl:LvB K.procs low xs)(hz:nmOk xs):RC K (inlS call) xs:=
 zfx K hk call xs (zdl hk Mn xs hl hz) (Mn xs hl hz)
theorem zhC {K:RK}(hk:K.Ok):∀(f:Nat)(xs:Sts),Lv K.procs f xs->nmOk xs->RC K (inlF K.procs f) xs
 |0,xs,hl,hz=>zku hk (low:=λ_=>False) (λys hl hz i a1 a2 a3 a4 a5 a6 ar hd=>by
  obtain⟨x,_,_,h⟩:=zgY i hl hd rfl;exact h.elim) xs hl hz
 |f+1,xs,hl,hz=>zku hk (low:=Lv K.procs f) (λys hl hz i a1 a2 a3 a4 a5 a6 ar hd w s v n A2 c2 V3 V4 V5 fs ts Af At cf ct T h Js Jm hn hb Z9 ha Hd=>by
  obtain⟨x,hx,hp,Fx⟩:=zgY i hl hd rfl;exact zkt K hk (inlF K.procs f) x (zhC hk f x.body Fx (hk.few _ _ hx).2.2.2.1) w s v n 9 a1 a2 A2 c2 V3 V4 V5 a6 fs ts Af At cf ct T h Js Jm hn hb hx hp ha Hd) xs hl hz
theorem zd5:∀ {xs:Sts},okS xs=true->nmOk xs
 | .nil,_=>trivial
 | .cons k nm args cond body els at_ r,h=>by
  unfold okS at h;simp only[Bool.and_eq_true,decide_eq_true_eq]at h;obtain⟨⟨⟨⟨⟨⟨⟨⟨⟨⟨⟨h1,h2⟩,h3⟩,_⟩,_⟩,_⟩,_⟩,_⟩,_⟩,hb⟩,he⟩,hr⟩:=h;refine⟨?_,zd5 hb,zd5 he,zd5 hr⟩;have hk:k=2\/k=3\/k=4\/k=9\/(k=1\/k=5\/k=6\/k=7\/k=8):=by omega
  rcases hk with e|e|e|e|e
  ·exact .inl e
  ·exact .inr (.inl e)
  ·exact .inr (.inr (.inl e))
  ·exact .inr (.inr (.inr (.inl e)))
  ·refine .inr (.inr (.inr (.inr ?_)));have ht:(tabA za3 k).2.2.2 =false:=by rcases e with e|e|e|e|e<;>subst e<;>rfl
   rw[ht]at h3;unfold nmdB at h3;simp only[Bool.false_eq_true,if_false,beq_iff_eq]at h3;have uw:(⟨#[]⟩:ByteArray).toList = []:=by first|kernel_rfl|(rw[ByteArray.toList,ByteArray.toList.loop];simp[ByteArray.size];done)|(rw[ByteArray.toList,ByteArray.toList.loop,if_neg (by decide)];rfl)
   have h4:nm=⟨#[]⟩:=ba_eq.1 (by rw[h3,uw];rfl);rw[h4]
theorem zkv {l:List UInt8}(h:zak l=true):l≠ []:=λe=>by
 rw[e]at h;exact absurd h (by decide)
theorem ziu {t:Tre}(h:OkT t)(hz:SzT t)(hx:∀x∈t.procs,in64 x.at_/\∀v∈x.params,in64 v.at_){y:List UInt8}{x:Prc}(e:zaj t.procs y=some x):
  x.params.length<=4/\x.nm.size<=16/\(∀v∈x.params,v.nm.size<=16/\in64 v.at_/\v.nm.data.toList≠ [])/\nmOk x.body/\in64 x.at_:=by
 obtain⟨h1,h2,h3,h4,h5⟩:=zgf h hz hx e;obtain⟨hm,_⟩:=zbd e;have ht:=h.tree;unfold okTr okPs zbm okVs zbL at ht;simp only[Bool.and_eq_true,List.all_eq_true]at ht;have k1:=ht.2 x hm;exact⟨h1,h2,λv hv=>⟨(h3 v hv).1,(h3 v hv).2,zkv (k1.1.2 v hv)⟩,zd5 k1.2,h5⟩
theorem zm1 {t:Tre}(h:OkT t):nmOk t.main:=by
 have ht:=h.tree;unfold okTr at ht;simp only[Bool.and_eq_true]at ht;exact zd5 ht.1.1.2
theorem zgZ {ps:List Prc}(h:(nmP ps).Nodup):∀ {x:Prc},x∈ps->zaj ps x.nm.data.toList=some x:=by
 induction ps with
 |nil=>intro x hx;simp at hx
 |cons p r ih=>
  intro x hx;unfold nmP at h ih;simp only[List.map_cons,List.nodup_cons]at h;rcases List.mem_cons.1 hx with rfl|hx
  ·unfold zaj;have:zaj r x.nm.data.toList=none:=by
    cases hq:zaj r x.nm.data.toList with
    |none=>rfl
    |some z=>
     obtain⟨hz,ux⟩:=zbd hq;exact absurd (by rw[<-ux];exact List.mem_map.2 ⟨z,hz,rfl⟩) h.1
   simp[this]
  ·unfold zaj;rw[ih h.2 hx]
theorem zg0 {t:Tre}(h:OkT t):(nmP t.procs).Nodup :=(freshL_iff.1 h.procs).2
