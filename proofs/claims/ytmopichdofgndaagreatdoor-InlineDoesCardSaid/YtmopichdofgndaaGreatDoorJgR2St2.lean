/-
  facetroomref12: the walk of stmts. Printed by wip/gen_r2/st2.py.
-/
import Derived.Test.YtmopichdofgndaaGreatDoorR2Call
import Derived.Test.YtmopichdofgndaaGreatDoorJnInS
set_option linter.unusedVariables false
set_option linter.unusedSimpArgs false
namespace Go.Proofs.YtmopichdofgndaaGreatDoor
open Go.RowKit Go.Shelf Go.Maps

theorem RAtF.own {K:RK} {w w':World} {s:Ist} {v:Value} {fl:Bool} {g:Nat} (h:RAtF K w s v fl) (hf:Fr (fun i=>i=g) w w') (hg:K.W0.heap.size≤g) (hP:K.P≠g) (hv:∀i,v.ownBlock=some i→i≠g):RAtF K w' s v fl:=
 h.frT hf (fun i e=>by have e:i=g:=e;omega) hP fun i hi e=>hv i hi e
theorem ofN_nil {n:Nms} {nm:ByteArray} (hn:n []=none) (h:nm.data.toList= []):ofN n nm=nm:=by unfold ofN;rw[h,hn];rfl
set_option maxRecDepth 100000 in
set_option maxHeartbeats 6400000 in
theorem rstm_one (K:RK) (hk:K.Ok) (call:ByteArray→Exs→Nms→Int→Ist→Sts×Ist) (xs:Sts) (hin:RStI K call xs) (hca:RCaP K call xs):RC K (inlS call) xs:=by
 intro w s v n A c fs ts Af At cf ct T h hcm hn hb hn0 hx
 have hl:xs.len≤9223372036854775807:=leq9 hx.1 hx.2.1.1
 obtain⟨m,hm⟩:=nmq xs.len
 have HST:=hdq (show RSt K call xs s n w v (.slice none 0 0) [] [] s 0 v w fs ts Af At cf ct T from⟨h,hcm,OutRow.nil _ _ _,hn,hb,fun b hb'=>(hb b hb').1,Fr.refl _ _,SpotP.refl _ _,rfl,lrq _⟩)
 have HLW:=hdq (aiq h.bk.lt h.fr.size)
 have HK:=hdq hk
 have HIN:=hdq hin
 have HCA:=hdq hca
 have HX:=hdq hx
 have HN0:=hdq hn0
 rw[←hm]at hl ⊢
 have HM:=hdq hm
 obtain⟨nf,hnf⟩:=nmq fs.length
 obtain⟨nt,hnt⟩:=nmq ts.length
 rw[←hnf,←hnt]
 have HNF:=hdq (aiq hnf hnt)
 clear hk hin hca h hcm hn hb hx hm hn0 hnf hnt
 go_enter Tryz.func32,Tryz.ntmps32
 go_wp2_with fail
 go_loopw [9,10] (fun vo i wr=>∃k:Nat,k≤m∧i= .int .i64 k∧∃(v':Value) (acc:List St) (cs:List Value) (si:Ist),Hid (RSt K call xs s n wr v' vo acc cs si k v w fs ts Af At cf ct T)) (fun _ i _=>m - (intOf i).toNat)
 case atStart=>exact⟨0,Nat.zero_le _,rfl,_,_,_,_,HST⟩
 case round=>
  clear HST
  obtain⟨k,hk,rfl,vk,acc,cs,si,hb⟩:=hrel
  by_cases hlt:k < m
  rotate_left
  ·have hlt':¬(k:Int) < (m:Int):=by omega
   have hr:inlS call xs n s=(stsOf acc,si):=by
    rw[←hb.out.eq,Sts.drop_nil (by rw[←HM.out];omega)]
    simp only[inlS,app_nil]
   have HR:=hdq hr
   clear hr
   go_wp2_with fail
   go_ret
   exact⟨vk,u9,acc,cs,rfl,by rw[HR.out];exact hb.out.st,hb.out.out,by rw[HR.out],hb.out.fr,hb.out.spot,by rw[HR.out];exact hb.out.many,by rw[HR.out];exact hb.out.cm⟩
  have hlt':(k:Int) < (m:Int):=by omega
  have hge:(0:Int)≤(k:Int):=by omega
  have p4:=hb.out.st.bk.cell 4
  have pl:=hb.out.st.bk.lt
  simp only[getsL]at p4
  obtain⟨a0,a1,a2,a3,a4,a5,a6,ar,hd⟩:=Sts.drop_cons (show k < xs.len from by rw[←HM.out];exact hlt)
  have HD:=hdq hd
  cases hfl:fullB si with
  |true=>
   have hr:inlS call xs n s=(Sts.app (stsOf acc) .nil,si):=by
    rw[←hb.out.eq,HD.out]
    unfold inlS
    rw[if_pos hfl]
   have HR:=hdq hr
   rw[hfl]at p4
   clear hr hfl hd
   go_wp2_with fail
   go_ret
   exact⟨vk,u9,acc,cs,rfl,by rw[HR.out];exact hb.out.st,hb.out.out,by rw[HR.out,app_nil],hb.out.fr,hb.out.spot,by rw[HR.out];exact hb.out.many,by rw[HR.out];exact hb.out.cm⟩
  |false=>
   obtain⟨gb,go,rfl,hat⟩:=HX.out.2.2 (by rw[←HM.out];omega)
   have hat0:=hat.drop k
   rw[hd]at hat0
   obtain⟨⟨hbS,_,r0,r1,d0,d1,d6⟩,⟨A2,q2,d2,s2⟩,⟨A3,q3,d3,s3⟩,⟨A4,q4,d4,s4⟩,⟨A5,q5,d5,s5⟩,_⟩:=hat0
   have hg0:=HK.out.low _ hbS
   have c0:=(hb.out.st.fr.cell (p:=⟨gb,go+k*7,none⟩) hg0 id).trans d0
   have c1:=(hb.out.st.fr.cell (p:=⟨gb,go+k*7+1,none⟩) hg0 id).trans d1
   have c2:=(hb.out.st.fr.cell (p:=⟨gb,go+k*7+2,none⟩) hg0 id).trans d2
   have c3:=(hb.out.st.fr.cell (p:=⟨gb,go+k*7+3,none⟩) hg0 id).trans d3
   have c4:=(hb.out.st.fr.cell (p:=⟨gb,go+k*7+4,none⟩) hg0 id).trans d4
   have c5:=(hb.out.st.fr.cell (p:=⟨gb,go+k*7+5,none⟩) hg0 id).trans d5
   have c6:=(hb.out.st.fr.cell (p:=⟨gb,go+k*7+6,none⟩) hg0 id).trans d6
   have hxr:gb < wr.heap.size:=ltq (HK.out.low _ hbS) hb.out.st.fr.size
   obtain⟨l2,hl2⟩:=nmq a2.len
   obtain⟨l3,hl3⟩:=nmq a3.len
   obtain⟨l4,hl4⟩:=nmq a4.len
   obtain⟨l5,hl5⟩:=nmq a5.len
   rw[←hl2]at c2
   rw[←hl3]at c3
   rw[←hl4]at c4
   rw[←hl5]at c5
   rw[hfl]at p4
   obtain⟨w5,hw5⟩:=nmq (wr.alloc (.cells #[.int .u8 a0,.string a1,.slice A2 l2 q2,.slice A3 l3 q3,.slice A4 l4 q4,.slice A5 l5 q5,.int .i64 a6] 39))
   have hf5:Fr NoT wr w5:=by rw[hw5];exact(Fr.refl _ _).alloc _
   have hk5:Bk w5 wr.heap.size 39 #[.int .u8 a0,.string a1,.slice A2 l2 q2,.slice A3 l3 q3,.slice A4 l4 q4,.slice A5 l5 q5,.int .i64 a6]:=by rw[hw5];exact Bk.new _ _ _
   obtain⟨hi4,hi5,hnm0⟩:=HIN.out k a0 a1 a2 a3 a4 a5 a6 ar hd
   have HP:=hdq (aiq s2 (aiq s3 (aiq s4 (aiq s5 (aiq hi4 (aiq hi5 (aiq hnm0 (aiq r0 r1))))))))
   have HL:=hdq (aiq hl2 (aiq hl3 (aiq hl4 hl5)))
   have HW5:=hdq hw5
   have HF5:=hdq hf5
   have HK5:=hdq hk5
   have HFL:=hdq hfl
   have hst5:RAtF K w5 si vk false:=by have:=hb.out.st.fr0 hf5;rw[←hfl];exact this
   have HST5:=hdq hst5
   have HNM5:=hdq (hb.out.nms.keep (fun _ h=>h) (hf5.same fun b h=>⟨(hb.out.nb b h).1,id⟩))
   clear hat hbS s2 s3 s4 s5 d0 d1 d2 d3 d4 d5 d6 hi4 hi5 hnm0 r0 r1 hl2 hl3 hl4 hl5 hd hw5 hf5 hk5 hg0 hfl hst5
   by_cases h9:a0=9
   ·-- <C9>
    subst h9
    have t0:=HK5.out.cell 0
    have tl:=HK5.out.lt
    have t1:=HK5.out.cell 1
    have t2:=HK5.out.cell 2
    have t3:=HK5.out.cell 3
    have t4:=HK5.out.cell 4
    have t5:=HK5.out.cell 5
    have t6:=HK5.out.cell 6
    simp only[getsL]at t0 t1 t2 t3 t4 t5 t6
    have hnb5:RB K vk w5 T:=fun b h=>⟨ltq (hb.out.nb b h).1 HF5.out.size,(hb.out.nb b h).2.1,(hb.out.nb b h).2.2⟩
    have HCC:=HCA.out k a1 a2 a3 a4 a5 a6 ar HD.out w5 si vk n A2 q2 (.slice A3 l3 q3) (.slice A4 l4 q4) (.slice A5 l5 q5) fs ts Af At cf ct T (hb.out.st.fr0 HF5.out) hb.out.cm HFL.out HNM5.out hnb5 HN0.out HP.out.1 HP.out.2.2.2.2.2.2.2.2
    rw[←HL.out.1,←HNF.out.1,←HNF.out.2]at HCC
    have HCC:=hdq HCC
    rw[HW5.out]at t0 t1 t2 t3 t4 t5 t6 tl
    go_wp2_with fail
    rw[←HW5.out]
    refine HCC.out.mono ?_
    rintro _ w7 ⟨v7,vo7,acc7,cs7,rfl,h7,hout7,hr7,hf7,hsp7,hm7,hc7⟩
    have hout1:=(hb.out.out.fr0 HF5.out).keep hf7 hsp7 HLW.out.1
    have hz6:w.heap.size≤w5.heap.size:=leq9 hb.out.fr.size HF5.out.size
    have hz7:w.heap.size≤w7.heap.size:=leq9 hz6 hf7.size
    have hlow:∀i,u9.ownBlock=some i→i < w5.heap.size:=fun i hi=>ltq (row_lt hb.out.out.row hi).2 HF5.out.size
    have hv7:∀i,v7.ownBlock=some i→i < w7.heap.size:=fun i hi=>by obtain⟨c9,h9,_⟩:=h7.row;exact(row_lt h9 hi).2
    have hsz7:acc.length+acc7.length≤1000000:=by have h8:=h7.most.1;have h9:=hb.out.many;omega
    have HO:=hdq (aiq hout1 (aiq hout7 (aiq hlow hv7)))
    have H7:=hdq (aiq h7 (aiq hr7 (aiq hf7 (aiq hsp7 (aiq hm7 hc7)))))
    clear hout1 hout7 hlow hv7 h7 hr7 hf7 hsp7 hm7 hc7 t0 t1 t2 t3 t4 t5 t6 tl hnb5 c0 c1 c2 c3 c4 c5 c6 p4 pl hxr
    go_wp2_with (at_builtin;refine wpList_out rfl _ _ rfl rfl rfl HO.out.1 HO.out.2.1 hz6 HO.out.2.2.1 hz7 hsz7 HO.out.2.2.2 ?_)
    intro vo8 w8 hout8 hf8 hsp8
    have hT:∀i,u9.ownBlock=some i→w.heap.size≤i:=fun i hi=>(row_lt HO.out.1.row hi).1
    have hne:∀i,u9.ownBlock=some i→v7.ownBlock≠some i:=fun i hi=>HO.out.1.ne i hi
    obtain⟨h7,hr7,hf7,hsp7,hm7,hc7⟩:=H7.out
    have hW0:=HLW.out.2
    have hLP:=HLW.out.1
    have HNX:=hdq (show RSt K call xs s n w8 v7 vo8 (acc++acc7) (cs++cs7) (call a1 a2 n a6 si).2 (k+1) v w fs ts Af At cf ct T from
     ⟨h7.frT hf8 (fun i hi=>by have:=hT i hi;omega) (fun e=>by have:=hT _ e;omega) (fun i hi e=>hne i e hi),hc7,hout8,
      (HNM5.out.keep (fun _ h=>h) (hf7.same fun b h=>⟨ltq (hb.out.nb b h).1 HF5.out.size,fun e=>by
       rcases e with e|e
       ·exact(hb.out.nb b h).2.1 e
       ·exact(hb.out.nb b h).2.2 e⟩)).keep (fun _ h=>h) (hf8.same fun b h=>⟨by have:=hb.out.tw b h;omega,fun e=>by have:=hT _ e;have:=hb.out.tw b h;omega⟩),
      (fun b h=>⟨by have:=hb.out.tw b h;have:=hf8.size;omega,(hb.out.nb b h).2.1,fun e=>by
       rcases hsp7 with k9|⟨g9,k9,hg9⟩
       ·exact(hb.out.nb b h).2.2 (k9▸e)
       ·rw[k9]at e;have:=Option.some.inj e;have:w5.heap.size≤g9:=hg9;have:=hb.out.tw b h;omega⟩),
      hb.out.tw,
      Fr.thenT (Fr.thenT (hb.out.fr.trans HF5.out.any) hf7 fun i hi e=>by
       rcases e with e|e
       ·exact Or.inl e
       ·rcases hb.out.spot with k9|⟨g9,k9,hg9⟩
        ·exact Or.inr (k9▸e)
        ·rw[k9]at e;have:=Option.some.inj e;omega) hf8 fun i hi e=>by have:=hT i e;omega,
      hb.out.spot.trans hsp7 hz6,by
       rw[stsOf_app,app_assoc,←hb.out.eq,HD.out,Sts.drop_succ k xs HD.out]
       conv=>rhs;unfold inlS
       rw[if_neg (by rw[HFL.out];simp),if_pos rfl,←hr7],by rw[List.length_append];have:=hb.out.many;omega⟩)
    clear hout8 hf8 hsp8 hT hne h7 hr7 hf7 hsp7 hm7 hc7 hW0 hLP
    go_wp2_with fail
    go_roundw
    case rel=>exact⟨k+1,by omega,by go_num,_,_,_,_,HNX⟩
    case measure=>simp[intOf];omega
    -- </C9>
   ·have h9':(a0==9)=false:=by simpa using h9
    have hm256:si.many≤256:=by
     have h2:=HFL.out
     unfold fullB at h2
     simp only[Bool.or_eq_false_iff,decide_eq_false_iff_not]at h2
     omega
    have hcm:=hb.out.cm
    have HCN:=hdq (count_any K w5 si vk 1 HST5.out ⟨by omega,by omega⟩)
    have hgP:K.P≠wr.heap.size:=fun e=>by have:=HLW.out.1;have:=hb.out.fr.size;omega
    have HGP:=hdq hgP
    have hgW:K.W0.heap.size≤wr.heap.size:=hb.out.st.fr.size
    have HGW:=hdq hgW
    have HNV:=hdq (show ∀i,vk.ownBlock=some i→i≠wr.heap.size from fun i hi e=>by obtain⟨c9,h9,_⟩:=hb.out.st.row;have:=(row_lt h9 hi).2;omega)
    clear hgP hgW
    go_wp2_with fail
    rw[←HW5.out]
    clear c0 c1 c2 c3 c4 c5 c6 hxr HW5 p4 pl
    refine HCN.out.mono ?_
    rintro _ w7 ⟨rfl,hst7,hf7⟩
    have hk7:=HK5.out.fr hf7 (fun e=>HGP.out e.symm)
    have t0:=hk7.cell 0
    have t1:=hk7.cell 1
    have tf:=hk7.frozen 1
    have tl:=hk7.lt
    simp only[getsL]at t0 t1
    have hn7:=HNM5.out.keep (fun _ h=>h) (hf7.same fun b h=>⟨ltq (hb.out.nb b h).1 HF5.out.size,fun e=>(hb.out.nb b h).2.1 e⟩)
    have hT7:∀b,T b→b < w7.heap.size:=fun b h=>ltq (ltq (hb.out.nb b h).1 HF5.out.size) hf7.size
    have hren:=renamed_any n fs ts Af At cf ct T a1 w7 hn7 hT7
    rw[←HNF.out.1,←HNF.out.2]at hren
    have HREN:=hdq hren
    obtain⟨nm',hnm⟩:=nmq (if a0=3 then a1 else ofN n a1)
    have HNM:=hdq hnm
    have hways:((a0==2)=true∧Hid (nm'=ofN n a1))∨((a0==2)=false∧(a0==4)=true∧Hid (nm'=ofN n a1))∨((a0==2)=false∧(a0==4)=false∧Hid (nm'=a1)):=by
     by_cases e2:a0=2
     ·exact .inl ⟨by simpa using e2,by rw[hnm,if_neg (by omega)];exact hdq rfl⟩
     ·by_cases e4:a0=4
      ·exact .inr (.inl ⟨by simpa using e2,by simpa using e4,by rw[hnm,if_neg (by omega)];exact hdq rfl⟩)
      ·refine .inr (.inr ⟨by simpa using e2,by simpa using e4,?_⟩)
       by_cases e3:a0=3
       ·rw[hnm,if_pos e3];exact hdq rfl
       ·rw[hnm,if_neg e3]
        refine hdq (ofN_nil HN0.out ?_)
        rcases HP.out.2.2.2.2.2.2.1 with h|h|h|h|h
        ·exact absurd h e2
        ·exact absurd h e3
        ·exact absurd h e4
        ·exact absurd h h9
        ·exact h
    have H7:=hdq (show RkAt K w7 ⟨si.calls,si.vars,si.many+1⟩ vk∧Fr (fun i=>i=K.P∨i=wr.heap.size) wr w7∧Bk w7 wr.heap.size 39 #[.int .u8 a0,.string a1,.slice A2 l2 q2,.slice A3 l3 q3,.slice A4 l4 q4,.slice A5 l5 q5,.int .i64 a6]∧NmR w7 T n fs ts Af cf At ct∧wr.heap.size < w7.heap.size from
     ⟨hst7,(HF5.out.any.trans hf7:Fr (fun i=>i=K.P) wr w7).mono fun _ _ e=> .inl e,hk7,hn7,tl⟩)
    clear hst7 hf7 hk7 hn7 hT7 hren hnm hm256 hcm
    rcases hways with⟨e2,HNN⟩|⟨e2,e4,HNN⟩|⟨e2,e4,HNN⟩
    case' inl=>
     go_wp2_with fail
     go_at_call 94
     refine HREN.out.mono ?_
     rintro _ wz ⟨rfl,hwz⟩
     rw[hwz,←HNN.out]
     clear hwz wz
     obtain⟨w8,hw8⟩:=nmq (w7.setCell ⟨wr.heap.size,1,none⟩ (.string nm'))
     have hf8:Fr (fun i=>i=wr.heap.size) w7 w8:=by rw[hw8];exact Fr.own (Fr.refl _ _) _ _
     have H8:=hdq (show RkAt K w8 ⟨si.calls,si.vars,si.many+1⟩ vk∧Fr (fun i=>i=K.P∨i=wr.heap.size) wr w8∧Bk w8 wr.heap.size 39 #[.int .u8 a0,.string nm',.slice A2 l2 q2,.slice A3 l3 q3,.slice A4 l4 q4,.slice A5 l5 q5,.int .i64 a6]∧NmR w8 T n fs ts Af cf At ct∧wr.heap.size < w8.heap.size from
      ⟨H7.out.1.own hf8 HGW.out HGP.out HNV.out,H7.out.2.1.trans (hf8.mono fun _ _ e=> .inr e),by have:=H7.out.2.2.1.set_ 1 (.string nm');rw[hw8];simpa using this,H7.out.2.2.2.1.keep (fun _ h=>h) (hf8.same fun b h=>⟨ltq (hb.out.nb b h).1 H7.out.2.1.size,fun e=>by have e:b=wr.heap.size:=e;have:=(hb.out.nb b h).1;omega⟩),ltq H7.out.2.2.2.2 hf8.size⟩)
     have HW8:=hdq hw8
     have v2:=H8.out.2.2.1.cell 2
     have vf2:=H8.out.2.2.1.frozen 2
     have vl:=H8.out.2.2.1.lt
     simp only[getsL]at v2
     rw[hw8]at v2 vl
     clear hw8 hf8
     go_wp2_with fail
     rw[←HW8.out]
     clear t0 t1 tf tl v2 vf2 vl HW8
    case' inr.inl=>
     go_wp2_with fail
     go_at_call 94
     refine HREN.out.mono ?_
     rintro _ wz ⟨rfl,hwz⟩
     rw[hwz,←HNN.out]
     clear hwz wz
     obtain⟨w8,hw8⟩:=nmq (w7.setCell ⟨wr.heap.size,1,none⟩ (.string nm'))
     have hf8:Fr (fun i=>i=wr.heap.size) w7 w8:=by rw[hw8];exact Fr.own (Fr.refl _ _) _ _
     have H8:=hdq (show RkAt K w8 ⟨si.calls,si.vars,si.many+1⟩ vk∧Fr (fun i=>i=K.P∨i=wr.heap.size) wr w8∧Bk w8 wr.heap.size 39 #[.int .u8 a0,.string nm',.slice A2 l2 q2,.slice A3 l3 q3,.slice A4 l4 q4,.slice A5 l5 q5,.int .i64 a6]∧NmR w8 T n fs ts Af cf At ct∧wr.heap.size < w8.heap.size from
      ⟨H7.out.1.own hf8 HGW.out HGP.out HNV.out,H7.out.2.1.trans (hf8.mono fun _ _ e=> .inr e),by have:=H7.out.2.2.1.set_ 1 (.string nm');rw[hw8];simpa using this,H7.out.2.2.2.1.keep (fun _ h=>h) (hf8.same fun b h=>⟨ltq (hb.out.nb b h).1 H7.out.2.1.size,fun e=>by have e:b=wr.heap.size:=e;have:=(hb.out.nb b h).1;omega⟩),ltq H7.out.2.2.2.2 hf8.size⟩)
     have HW8:=hdq hw8
     have v2:=H8.out.2.2.1.cell 2
     have vf2:=H8.out.2.2.1.frozen 2
     have vl:=H8.out.2.2.1.lt
     simp only[getsL]at v2
     rw[hw8]at v2 vl
     clear hw8 hf8
     go_wp2_with fail
     rw[←HW8.out]
     clear t0 t1 tf tl v2 vf2 vl HW8
    case' inr.inr=>
     obtain⟨w8,hw8⟩:=nmq w7
     have H8:=hdq (show RkAt K w8 ⟨si.calls,si.vars,si.many+1⟩ vk∧Fr (fun i=>i=K.P∨i=wr.heap.size) wr w8∧Bk w8 wr.heap.size 39 #[.int .u8 a0,.string nm',.slice A2 l2 q2,.slice A3 l3 q3,.slice A4 l4 q4,.slice A5 l5 q5,.int .i64 a6]∧NmR w8 T n fs ts Af cf At ct∧wr.heap.size < w8.heap.size from by
      rw[hw8,HNN.out];exact H7.out)
     have t2:=H7.out.2.2.1.cell 2
     simp only[getsL]at t2
     have HW8:=hdq hw8
     clear hw8
     go_wp2_with fail
     rw[←HW8.out]
     clear t0 t1 t2 tf tl HW8
    all_goals
     have hx2:=r2exprs_any a2 n w8 K.S False A2 q2 fs ts Af At cf ct T (fun b h=>ltq (HK.out.low b h) H8.out.1.fr.size) (fun b h=>by have:=(hb.out.nb b h).1;have:=H8.out.2.2.2.2;omega) H8.out.2.2.2.1 (HP.out.1.imp fun _ _ hx=>ExR.keep (H8.out.1.fr.same fun b h=>⟨HK.out.low b h,id⟩) hx)
     rw[←HL.out.1,←HNF.out.1,←HNF.out.2]at hx2
     have HX2:=hdq hx2
     clear hx2
     go_at_call 95
     refine HX2.out.mono ?_
     rintro _ x9 ⟨X2,x2,rfl,sx,fx⟩
     rw[exprN_len]at sx ⊢
     rw[←HL.out.1]
     have kx:=H8.out.2.2.1.fr0 fx
     have y0:=kx.cell 0
     have y1:=kx.cell 1
     have y2:=kx.cell 2
     have y3:=kx.cell 3
     have y4:=kx.cell 4
     have y5:=kx.cell 5
     have y6:=kx.cell 6
     have yf:=kx.frozen 2
     have yl:=kx.lt
     simp only[getsL]at y0 y1 y2 y3 y4 y5 y6
     obtain⟨w9,hw⟩:=nmq (x9.setCell ⟨wr.heap.size,2,none⟩ (.slice X2 l2 x2))
     have hfo:Fr (fun i=>i=wr.heap.size) x9 w9:=by rw[hw];exact Fr.own (Fr.refl _ _) _ _
     have hff:Fr (fun i=>i=wr.heap.size) w8 w9:=fx.any.trans hfo
     have H9:=hdq (show RkAt K w9 ⟨si.calls,si.vars,si.many+1⟩ vk∧Fr (fun i=>i=K.P∨i=wr.heap.size) wr w9∧Bk w9 wr.heap.size 39 #[.int .u8 a0,.string nm',.slice X2 l2 x2,.slice A3 l3 q3,.slice A4 l4 q4,.slice A5 l5 q5,.int .i64 a6]∧NmR w9 T n fs ts Af cf At ct∧wr.heap.size < w9.heap.size from
      ⟨H8.out.1.own hff HGW.out HGP.out HNV.out,H8.out.2.1.trans (hff.mono fun _ _ e=> .inr e),by have:=kx.set_ 2 (.slice X2 l2 x2);rw[hw];simpa using this,H8.out.2.2.2.1.keep (fun _ h=>h) (hff.same fun b h=>⟨ltq (hb.out.nb b h).1 H8.out.2.1.size,fun e=>by have e:b=wr.heap.size:=e;have:=(hb.out.nb b h).1;omega⟩),ltq H8.out.2.2.2.2 hff.size⟩)
     have S9:=hdq (show SlR (fun b o=>ExR w9 (New w8.heap.size w9) True (exprN n a2) b o) a2.len 64 X2 x2 from sx.imp fun _ _ h=>ExR.more (fun b hb=>⟨hb.1,ltq hb.2 hfo.size⟩) (ExR.keep (hfo.same fun b hb=>⟨hb.2,fun e=>by have e:b=wr.heap.size:=e;have h1:=hb.1;have:=H8.out.2.2.2.2;omega⟩) h))
     have F9:=hdq hff
     have HW9:=hdq hw
     clear sx fx kx hfo hff hw
     go_wp2_with fail
     rw[←HW9.out]
     clear y0 y1 y2 y3 y4 y5 y6 yf yl
     have hx3:=r2conds_any a3 n w9 K.S False A3 q3 fs ts Af At cf ct T (fun b h=>ltq (HK.out.low b h) H9.out.1.fr.size) (fun b h=>by have:=(hb.out.nb b h).1;have:=H9.out.2.2.2.2;omega) H9.out.2.2.2.1 (HP.out.2.1.imp fun _ _ hx=>CdR.keep (H9.out.1.fr.same fun b h=>⟨HK.out.low b h,id⟩) hx)
     rw[←HL.out.2.1,←HNF.out.1,←HNF.out.2]at hx3
     have HX3:=hdq hx3
     clear hx3
     go_at_call 96
     refine HX3.out.mono ?_
     rintro _ x10 ⟨X3,x3,rfl,sx,fx⟩
     rw[condN_len]at sx ⊢
     rw[←HL.out.2.1]
     have kx:=H9.out.2.2.1.fr0 fx
     have y0:=kx.cell 0
     have y1:=kx.cell 1
     have y2:=kx.cell 2
     have y3:=kx.cell 3
     have y4:=kx.cell 4
     have y5:=kx.cell 5
     have y6:=kx.cell 6
     have yf:=kx.frozen 3
     have yl:=kx.lt
     simp only[getsL]at y0 y1 y2 y3 y4 y5 y6
     obtain⟨w10,hw⟩:=nmq (x10.setCell ⟨wr.heap.size,3,none⟩ (.slice X3 l3 x3))
     have hfo:Fr (fun i=>i=wr.heap.size) x10 w10:=by rw[hw];exact Fr.own (Fr.refl _ _) _ _
     have hff:Fr (fun i=>i=wr.heap.size) w9 w10:=fx.any.trans hfo
     have H10:=hdq (show RkAt K w10 ⟨si.calls,si.vars,si.many+1⟩ vk∧Fr (fun i=>i=K.P∨i=wr.heap.size) wr w10∧Bk w10 wr.heap.size 39 #[.int .u8 a0,.string nm',.slice X2 l2 x2,.slice X3 l3 x3,.slice A4 l4 q4,.slice A5 l5 q5,.int .i64 a6]∧NmR w10 T n fs ts Af cf At ct∧wr.heap.size < w10.heap.size from
      ⟨H9.out.1.own hff HGW.out HGP.out HNV.out,H9.out.2.1.trans (hff.mono fun _ _ e=> .inr e),by have:=kx.set_ 3 (.slice X3 l3 x3);rw[hw];simpa using this,H9.out.2.2.2.1.keep (fun _ h=>h) (hff.same fun b h=>⟨ltq (hb.out.nb b h).1 H9.out.2.1.size,fun e=>by have e:b=wr.heap.size:=e;have:=(hb.out.nb b h).1;omega⟩),ltq H9.out.2.2.2.2 hff.size⟩)
     have S10:=hdq (show SlR (fun b o=>CdR w10 (New w9.heap.size w10) True (condN n a3) b o) a3.len 64 X3 x3 from sx.imp fun _ _ h=>CdR.more (fun b hb=>⟨hb.1,ltq hb.2 hfo.size⟩) (CdR.keep (hfo.same fun b hb=>⟨hb.2,fun e=>by have e:b=wr.heap.size:=e;have h1:=hb.1;have:=H9.out.2.2.2.2;omega⟩) h))
     have F10:=hdq hff
     have HW10:=hdq hw
     clear sx fx kx hfo hff hw
     go_wp2_with fail
     rw[←HW10.out]
     clear y0 y1 y2 y3 y4 y5 y6 yf yl
     have hcm1:si.calls≤si.many+1:=by have:=hb.out.cm;omega
     have HB4:=hdq (show Calls Tryz.prog 32 #[.pointer (some ⟨K.P,0,none⟩),.slice A4 l4 q4,.slice Af nf cf,.slice At nt ct] w10 (RP K (inlS call a4 n ⟨si.calls,si.vars,si.many+1⟩) ⟨si.calls,si.vars,si.many+1⟩ w10 vk)from by
      have h:=HP.out.2.2.2.2.1 w10 ⟨si.calls,si.vars,si.many+1⟩ vk n A4 q4 fs ts Af At cf ct T H10.out.1 hcm1 H10.out.2.2.2.1 (fun b h=>⟨by have:=(hb.out.nb b h).1;have:=H10.out.2.2.2.2;omega,(hb.out.nb b h).2.1,(hb.out.nb b h).2.2⟩) HN0.out HP.out.2.2.1
      rw[←HL.out.2.2.1,←HNF.out.1,←HNF.out.2]at h
      exact h)
     clear hcm1
     go_at_call 32
     refine HB4.out.mono ?_
     rintro _ x12 ⟨v12,vo12,acc12,cs12,rfl,h12,ho12,hr12,fx12,hsp12,hm12,hc12⟩
     have hsz12:acc12.length*128≤140737488355328:=by have:=h12.most.1;simp only at hm12;omega
     obtain⟨B4,e4',hvo,sb12⟩:=ho12.slice hsz12
     subst hvo
     have hTn:¬RT K vk wr.heap.size:=fun e=>by
      rcases e with e|e
      ·exact HGP.out e.symm
      ·exact HNV.out _ e rfl
     have kx:=H10.out.2.2.1.fr fx12 hTn
     have y4:=kx.cell 4
     have y5:=kx.cell 5
     have yf:=kx.frozen 4
     have yl:=kx.lt
     simp only[getsL]at y4 y5
     obtain⟨w12,hw⟩:=nmq (x12.setCell ⟨wr.heap.size,4,none⟩ (.slice B4 acc12.length e4'))
     have hfo:Fr (fun i=>i=wr.heap.size) x12 w12:=by rw[hw];exact Fr.own (Fr.refl _ _) _ _
     have hv12:∀i,v12.ownBlock=some i→i≠wr.heap.size:=fun i hi e=>by
      rcases hsp12 with k9|⟨g9,k9,hg9⟩
      ·exact HNV.out i (k9▸hi) e
      ·rw[k9]at hi;have:=Option.some.inj hi;have:w10.heap.size≤g9:=hg9;have:=H10.out.2.2.2.2;omega
     have hff:Fr (fun i=>RT K vk i∨i=wr.heap.size) w10 w12:=(fx12.mono fun _ _ e=>Or.inl e).trans (hfo.mono fun _ _ e=>Or.inr e)
     have hbk12:Bk w12 wr.heap.size 39 #[.int .u8 a0,.string nm',.slice X2 l2 x2,.slice X3 l3 x3,.slice B4 acc12.length e4',.slice A5 l5 q5,.int .i64 a6]:=by have:=kx.set_ 4 (.slice B4 acc12.length e4');rw[hw];simpa using this
     have hk12:=(hbk12.cell 5)
     have hl12:=hbk12.lt
     have hx8:=HP.out.2.2.2.2.2.2.2
     have hn12:NmR w12 T n fs ts Af cf At ct:=H10.out.2.2.2.1.keep (fun _ h=>h) (hff.same fun b h=>⟨ltq (hb.out.nb b h).1 H10.out.2.1.size,fun e=>by
      rcases e with(e|e)|e
      ·exact(hb.out.nb b h).2.1 e
      ·exact(hb.out.nb b h).2.2 e
      ·have:=(hb.out.nb b h).1;omega⟩)
     have hrb12:RB K v12 w12 T:=fun b h=>⟨by have:=(hb.out.nb b h).1;omega,(hb.out.nb b h).2.1,fun e=>by
      rcases hsp12 with k9|⟨g9,k9,hg9⟩
      ·exact(hb.out.nb b h).2.2 (k9▸e)
      ·rw[k9]at e;have:=Option.some.inj e;have:w10.heap.size≤g9:=hg9;have:=H10.out.2.2.2.2;have:=(hb.out.nb b h).1;omega⟩
     have hst12:=h12.own hfo HGW.out HGP.out hv12
     have HB5:=hdq (show Calls Tryz.prog 32 #[.pointer (some ⟨K.P,0,none⟩),.slice A5 l5 q5,.slice Af nf cf,.slice At nt ct] w12 (RP K (inlS call a5 n (inlS call a4 n ⟨si.calls,si.vars,si.many+1⟩).2) (inlS call a4 n ⟨si.calls,si.vars,si.many+1⟩).2 w12 v12)from by
       have h:=HP.out.2.2.2.2.2.1 w12 _ v12 n A5 q5 fs ts Af At cf ct T hst12 hc12 hn12 hrb12 HN0.out HP.out.2.2.2.1
       rw[←HL.out.2.2.2,←HNF.out.1,←HNF.out.2]at h
       exact h)
     have S12:=hdq (show SlR (fun b o=>StR w12 (fun i=>w10.heap.size≤i∧i < w12.heap.size∧v12.ownBlock≠some i) True (stsOf acc12) b o) acc12.length 128 B4 e4' from sb12.imp fun _ _ h=>StR.more (fun i hi=>⟨hi.1,ltq hi.2.1 hfo.size,hi.2.2⟩) (StR.keep (hfo.same fun i hi=>⟨hi.2.1,fun e=>by have e:i=wr.heap.size:=e;have h1:=hi.1;have:=H10.out.2.2.2.2;omega⟩) h))
     have H12:=hdq (aiq hr12 (aiq hff (aiq hsp12 (aiq hm12 (aiq hc12 (aiq hbk12 hsz12))))))
     have HV12:=hdq hv12
     have HW12:=hdq hw
     clear h12 ho12 hr12 fx12 hsp12 hm12 hc12 hsz12 sb12 kx hw hfo hff hv12 hk12 hl12 hx8 hn12 hrb12 hst12 hbk12
     go_wp2_with fail
     rw[←HW12.out]
     clear y4 y5 yf yl
     go_at_call 32
     refine HB5.out.mono ?_
     rintro _ w13 ⟨v13,vo13,acc13,cs13,rfl,h13,ho13,hr13,fx13,hsp13,hm13,hc13⟩
     have hsz13:acc13.length*128≤140737488355328:=by have:=h13.most.1;omega
     obtain⟨B5,e5',hvo,sb13⟩:=ho13.slice hsz13
     subst hvo
     have hTn:¬RT K v12 wr.heap.size:=fun e=>by
      rcases e with e|e
      ·exact HGP.out e.symm
      ·exact HV12.out _ e rfl
     have kx:=H12.out.2.2.2.2.2.1.fr fx13 hTn
     have yl:=kx.lt
     have yf:=kx.frozen 5
     obtain⟨w14,hw⟩:=nmq (w13.setCell ⟨wr.heap.size,5,none⟩ (.slice B5 acc13.length e5'))
     have hf14:Fr (fun i=>i=wr.heap.size) w13 w14:=by rw[hw];exact Fr.own (Fr.refl _ _) _ _
     have hk14:Bk w14 wr.heap.size 39 #[.int .u8 a0,.string nm',.slice X2 l2 x2,.slice X3 l3 x3,.slice B4 acc12.length e4',.slice B5 acc13.length e5',.int .i64 a6]:=by have:=kx.set_ 5 (.slice B5 acc13.length e5');rw[hw];simpa using this
     have j0:=hk14.cell 0
     have j1:=hk14.cell 1
     have j2:=hk14.cell 2
     have j3:=hk14.cell 3
     have j4:=hk14.cell 4
     have j5:=hk14.cell 5
     have j6:=hk14.cell 6
     have jl:=hk14.lt
     simp only[getsL]at j0 j1 j2 j3 j4 j5 j6
     obtain⟨w15,hw15⟩:=nmq (w14.alloc (.cells #[.int .u8 a0,.string nm',.slice X2 l2 x2,.slice X3 l3 x3,.slice B4 acc12.length e4',.slice B5 acc13.length e5',.int .i64 a6] 39))
     have hf15:Fr NoT w14 w15:=by rw[hw15];exact(Fr.refl _ _).alloc _
     have hk15:Bk w15 w14.heap.size 39 ([.int .u8 a0,.string nm',.slice X2 l2 x2,.slice X3 l3 x3,.slice B4 acc12.length e4',.slice B5 acc13.length e5',.int .i64 a6]:List Value).toArray :=by rw[hw15];exact Bk.new _ _ _
     have hwz:w14.heap.size=w13.heap.size:=by rw[hw];simp
     rw[hwz]at hk15
     obtain⟨i0,hi0,hz0,hzs,hzb⟩:=info_parts infoSt
     have HI:=hdq (aiq hi0 (aiq hz0 (aiq hzs hzb)))
     have hfwr:∀i,u9.ownBlock=some i→¬RT K vk i∧¬RT K v12 i∧¬i=wr.heap.size:=fun i hi=>by
      have h1:=row_lt hb.out.out.row hi
      have hh:¬RT K vk i:=fun e=>by
       rcases e with e|e
       ·have:=HLW.out.1;omega
       ·exact hb.out.out.ne i hi e
      refine⟨hh,fun e=>?_,by omega⟩
      rcases e with e|e
      ·have:=HLW.out.1;omega
      ·rcases H12.out.2.2.1 with k9|⟨g9,k9,hg9⟩
       ·exact hh (.inr (k9▸e))
       ·rw[k9]at e;have:=Option.some.inj e;have:w10.heap.size≤g9:=hg9;have:=H10.out.2.2.2.2;omega
     have hrow15:=rw_keep (rw_keep (rw_keep (rw_keep (rw_keep (rw_keep (rw_keep hb.out.out.row H8.out.2.1 fun i hi e=>(by
      rcases e with e|e
      ·exact(hfwr i hi).1 (.inl e)
      ·exact(hfwr i hi).2.2 e)) F9.out fun i hi=>(hfwr i hi).2.2) F10.out fun i hi=>(hfwr i hi).2.2) H12.out.2.1 fun i hi e=>(by
      rcases e with e|e
      ·exact(hfwr i hi).1 e
      ·exact(hfwr i hi).2.2 e)) fx13 fun i hi=>(hfwr i hi).2.1) hf14 fun i hi=>(hfwr i hi).2.2) hf15 fun _ _=>id
     have hz15:w.heap.size≤w15.heap.size:=by have h1:=hb.out.fr.size;have h2:=jl;have h3:=hf15.size;omega
     have hacc:acc.length≤261:=by have:=hb.out.many;have:=hb.out.st.most.1;omega
     have HROW15:=hdq hrow15
     have HK15:=hdq hk15
     have HF14:=hdq hf14
     have HF15:=hdq hf15
     have HW15:=hdq hw15
     have HW14:=hdq hw
     have H13:=hdq (aiq h13 (aiq hr13 (aiq fx13 (aiq hsp13 (aiq hm13 (aiq hc13 sb13))))))
     have y5:=kx.cell 5
     simp only[getsL]at y5
     rw[hw]at j0 j1 j2 j3 j4 j5 j6 jl
     clear hrow15 hk15 hf14 hf15 hw15 hk14 hw hfwr hi0 hz0 hzs hzb h13 ho13 hr13 fx13 hsp13 hm13 hc13 hsz13 sb13 kx hTn hwz
     go_wp2_with (at_builtin;rw[←HW14.out];rw[←HW15.out];refine wpList_append_spotA _ rfl _ _ 25 rfl w.heap.size 39 i0 (.agg zeroSt) 7 128 Tryz.underlying25 HI.out.1 HI.out.2.1 HI.out.2.2.1 HI.out.2.2.2 rfl (by decide) u9 acc.length cs rfl HROW15.out ⟨w13.heap.size,0,none⟩ 1 1 _ rfl rfl HK15.out.newsL ?c2 ?c63 ?cby hz15 ?_)
     case c2=>
      intro u hu
      simp only[List.mem_cons,List.not_mem_nil,or_false]at hu
      rcases hu with rfl|rfl|rfl|rfl|rfl|rfl|rfl<;>rfl
     case c63=>unfold maxLen;omega
     case cby=>omega
     intro vo16 w16 hown16 hg16 hsp16
     rw[HL.out.1,HL.out.2.1]at hown16
     have HS2':=S9.out
     have HS3':=S10.out
     have HNX:=hdq (RSt.next hb.out HLW.out HD.out HFL.out h9 HNM.out HP.out.2.2.2.2.2.2.2.1 HP.out.2.2.2.2.2.2.2.2 H8.out.2.1 H8.out.2.2.2.2 F9.out F10.out (Fr.refl _ _) HS2' HS3' rfl rfl rfl H12.out.1 H13.out.2.1 H12.out.2.1 H12.out.2.2.1 S12.out H12.out.2.2.2.1 H13.out.1 H13.out.2.2.1 H13.out.2.2.2.1 H13.out.2.2.2.2.2.2 H13.out.2.2.2.2.1 H13.out.2.2.2.2.2.1 HF14.out HF15.out hown16 hg16 hsp16)
     clear hown16 hg16 hsp16 HS2' HS3' hb j0 j1 j2 j3 j4 j5 j6 jl y5 yf yl
     go_wp2_with fail
     go_roundw
     case rel=>exact⟨k+1,by omega,by go_num,_,_,_,_,HNX⟩
     case measure=>simp[intOf];omega

theorem lvB_at2 {procs:List UInt8→Option Prc} {low:Sts→Prop}:∀(i:Nat) {xs:Sts} {a0:Int} {a1:ByteArray} {a2:Exs} {a3:Cds} {a4 a5:Sts} {a6:Int} {ar:Sts},LvB procs low xs→Sts.drop i xs= .cons a0 a1 a2 a3 a4 a5 a6 ar→
  (a0=9→∃x,procs a1.data.toList=some x∧x.params.length=a2.len∧low x.body)
 |0,.cons _ _ _ _ _ _ _ _,_,_,_,_,_,_,_,_,h,hd=>by
  simp only[Sts.drop]at hd
  cases hd
  exact h.1
 |0,.nil,_,_,_,_,_,_,_,_,_,hd=>by simp[Sts.drop]at hd
 |i+1,.nil,_,_,_,_,_,_,_,_,_,hd=>by simp[Sts.drop]at hd
 |i+1,.cons _ _ _ _ _ _ _ _,_,_,_,_,_,_,_,_,h,hd=>by
  simp only[Sts.drop]at hd
  exact lvB_at2 i h.2.2.2 hd
theorem rsti_all {K:RK} (hk:K.Ok) {call:ByteArray→Exs→Nms→Int→Ist→Sts×Ist} {low:Sts→Prop} (hca:∀xs,LvB K.procs low xs→nmOk xs→RCaP K call xs):∀(xs:Sts),LvB K.procs low xs→nmOk xs→RStI K call xs
 | .nil,_,_,i,_,_,_,_,_,_,_,_,h=>by cases i<;>simp[Sts.drop]at h
 | .cons k nm args cond body els at_ r,hl,hz,0,a0,a1,a2,a3,a4,a5,a6,ar,h=>by
  simp only[Sts.drop,Sts.cons.injEq]at h
  obtain⟨rfl,rfl,rfl,rfl,rfl,rfl,_,_⟩:=h
  exact⟨rstm_one K hk call _ (rsti_all hk hca _ hl.2.1 hz.2.1) (hca _ hl.2.1 hz.2.1),rstm_one K hk call _ (rsti_all hk hca _ hl.2.2.1 hz.2.2.1) (hca _ hl.2.2.1 hz.2.2.1),hz.1⟩
 | .cons k nm args cond body els at_ r,hl,hz,i+1,a0,a1,a2,a3,a4,a5,a6,ar,h=>by
  simp only[Sts.drop]at h
  exact rsti_all hk hca r hl.2.2.2 hz.2.2.2 i a0 a1 a2 a3 a4 a5 a6 ar h
theorem rstc_of {K:RK} (hk:K.Ok) {call:ByteArray→Exs→Nms→Int→Ist→Sts×Ist} {low:Sts→Prop} (hca:∀xs,LvB K.procs low xs→nmOk xs→RCaP K call xs) (xs:Sts) (hl:LvB K.procs low xs) (hz:nmOk xs):RC K (inlS call) xs:=
 rstm_one K hk call xs (rsti_all hk hca xs hl hz) (hca xs hl hz)
theorem rstc_all {K:RK} (hk:K.Ok):∀(f:Nat) (xs:Sts),Lv K.procs f xs→nmOk xs→RC K (inlF K.procs f) xs
 |0,xs,hl,hz=>rstc_of hk (low:=fun _=>False) (fun ys hl hz i a1 a2 a3 a4 a5 a6 ar hd=>by
  obtain⟨x,_,_,h⟩:=lvB_at2 i hl hd rfl
  exact h.elim) xs hl hz
 |f+1,xs,hl,hz=>rstc_of hk (low:=Lv K.procs f) (fun ys hl hz i a1 a2 a3 a4 a5 a6 ar hd w s v n A2 c2 V3 V4 V5 fs ts Af At cf ct T h hcm hfull hn hb hn0 ha hat=>by
  obtain⟨x,hx,hp,hlow⟩:=lvB_at2 i hl hd rfl
  exact rcall_any K hk (inlF K.procs f) x (rstc_all hk f x.body hlow (hk.few _ _ hx).2.2.2.1) w s v n 9 a1 a2 A2 c2 V3 V4 V5 a6 fs ts Af At cf ct T h hcm hfull hn hb hx hp ha hat) xs hl hz

theorem nmOk_of:∀ {xs:Sts},okS xs=true→nmOk xs
 | .nil,_=>trivial
 | .cons k nm args cond body els at_ r,h=>by
  unfold okS at h
  simp only[Bool.and_eq_true,decide_eq_true_eq]at h
  obtain⟨⟨⟨⟨⟨⟨⟨⟨⟨⟨⟨h1,h2⟩,h3⟩,_⟩,_⟩,_⟩,_⟩,_⟩,_⟩,hb⟩,he⟩,hr⟩:=h
  refine⟨?_,nmOk_of hb,nmOk_of he,nmOk_of hr⟩
  have hk:k=2∨k=3∨k=4∨k=9∨(k=1∨k=5∨k=6∨k=7∨k=8):=by omega
  rcases hk with e|e|e|e|e
  ·exact .inl e
  ·exact .inr (.inl e)
  ·exact .inr (.inr (.inl e))
  ·exact .inr (.inr (.inr (.inl e)))
  ·refine .inr (.inr (.inr (.inr ?_)))
   have ht:(tabA stShp k).2.2.2 =false:=by rcases e with e|e|e|e|e<;>subst e<;>rfl
   rw[ht]at h3
   unfold nmdB at h3
   simp only[Bool.false_eq_true,if_false,beq_iff_eq]at h3
   have he0:(⟨#[]⟩:ByteArray).toList = []:=by first|kernel_rfl|(rw[ByteArray.toList,ByteArray.toList.loop];simp[ByteArray.size];done)|(rw[ByteArray.toList,ByteArray.toList.loop,if_neg (by decide)];rfl)
   have h4:nm=⟨#[]⟩:=ba_eq.1 (by rw[h3,he0];rfl)
   rw[h4]
theorem r2name_ne {l:List UInt8} (h:nameB l=true):l≠ []:=fun e=>by
 rw[e]at h
 exact absurd h (by decide)
theorem procs_few2 {t:Tre} (h:OkT t) (hz:SzT t) (hx:∀x∈t.procs,in64 x.at_∧∀v∈x.params,in64 v.at_) {y:List UInt8} {x:Prc} (e:procsOf t.procs y=some x):
  x.params.length≤4∧x.nm.size≤16∧(∀v∈x.params,v.nm.size≤16∧in64 v.at_∧v.nm.data.toList≠ [])∧nmOk x.body∧in64 x.at_:=by
 obtain⟨h1,h2,h3,h4,h5⟩:=procs_few h hz hx e
 obtain⟨hm,_⟩:=procsOf_in e
 have ht:=h.tree
 unfold okTr okPs allPr okVs allVa at ht
 simp only[Bool.and_eq_true,List.all_eq_true]at ht
 have k1:=ht.2 x hm
 exact⟨h1,h2,fun v hv=>⟨(h3 v hv).1,(h3 v hv).2,r2name_ne (k1.1.2 v hv)⟩,nmOk_of k1.2,h5⟩
theorem main_nm {t:Tre} (h:OkT t):nmOk t.main:=by
 have ht:=h.tree
 unfold okTr at ht
 simp only[Bool.and_eq_true]at ht
 exact nmOk_of ht.1.1.2
theorem procs_first {ps:List Prc} (h:(nmP ps).Nodup):∀ {x:Prc},x∈ps→procsOf ps x.nm.data.toList=some x:=by
 induction ps with
 |nil=>intro x hx;simp at hx
 |cons p r ih=>
  intro x hx
  unfold nmP at h ih
  simp only[List.map_cons,List.nodup_cons]at h
  rcases List.mem_cons.1 hx with rfl|hx
  ·unfold procsOf
   have:procsOf r x.nm.data.toList=none:=by
    cases hq:procsOf r x.nm.data.toList with
    |none=>rfl
    |some z=>
     obtain⟨hz,hzn⟩:=procsOf_in hq
     exact absurd (by rw[←hzn];exact List.mem_map.2 ⟨z,hz,rfl⟩) h.1
   simp[this]
  ·unfold procsOf
   rw[ih h.2 hx]
theorem names_fresh {t:Tre} (h:OkT t):(nmP t.procs).Nodup :=(freshL_iff.1 h.procs).2
end Go.Proofs.YtmopichdofgndaaGreatDoor
