/-
  parse: block.
-/
import Derived.Test.YtphlnpaikpjakaaGreatDoorSlSet
set_option linter.unusedVariables false
set_option linter.unusedSimpArgs false
set_option maxHeartbeats 12800000
set_option maxRecDepth 100000
namespace Go.Proofs.YtphlnpaikpjakaaGreatDoor
open Go.RowKit Go.Shelf

theorem blockP_s {n:Nat} {l:List Tk} (hm:mayB [123] l=true):blockP (n+1) l=stmtsF (stmtOf (blockP n) n) l.tail.length [] l.tail:=by unfold blockP;rw[hm];rfl

theorem lsV_ways {C:Pcx} {d:Nat} {r:PR (List Va)} {W w':World} {e:Ending} (h:EndV C d lsVVa r W e w'):
  (∃(xs:List Va) (l:List Tk) (A:Option Addr) (c:Nat),r= .ok xs l∧e= .returned (.slice A xs.length c)∧SlR (VaR w' (New W.heap.size w') False xs) xs.length 24 A c∧PaAt C w' l d∧Fr C.T W w')∨
   ∃c a,r= .err c a∧e= .panicked [{v:= .iface 73 (.agg #[.int .i64 c,.int .i64 a]),recovered:=false}]∧Fr C.T W w':=by
 unfold EndV at h
 cases r with
 |err c a=>exact .inr ⟨c,a,rfl,h⟩
 |ok x l=>
  obtain⟨v,rfl,⟨A,c,rfl,hs⟩,hp,hf⟩:=h
  exact .inl ⟨x,l,A,c,rfl,rfl,hs,hp,hf⟩
theorem stlV_ways {C:Pcx} {d:Nat} {r:PR (List St)} {W w':World} {e:Ending} (h:EndV C d StlV r W e w'):
  (∃(xs:List St) (l:List Tk) (A:Option Addr) (c:Nat),r= .ok xs l∧e= .returned (.slice A (stsOf xs).len c)∧SlR (StR w' (New W.heap.size w') False (stsOf xs)) (stsOf xs).len 128 A c∧PaAt C w' l d∧Fr C.T W w')∨
   ∃c a,r= .err c a∧e= .panicked [{v:= .iface 73 (.agg #[.int .i64 c,.int .i64 a]),recovered:=false}]∧Fr C.T W w':=by
 unfold EndV at h
 cases r with
 |err c a=>exact .inr ⟨c,a,rfl,h⟩
 |ok x l=>
  obtain⟨v,rfl,⟨A,c,rfl,hs⟩,hp,hf⟩:=h
  exact .inl ⟨x,l,A,c,rfl,rfl,hs,hp,hf⟩

theorem stmt_while (C:Pcx) (l:List Tk) (d:Nat) (w:World) (xs:Cds) (r1:List Tk) (b:List St) (r2:List Tk) (hk8:keyK (hdT l).text =8) (hoa:askQ l.tail= .ok xs r1) (hbk:∀w,PaAt C w r1 d→Calls Tryz.prog 54 #[.pointer (some ⟨C.P,0,none⟩)] w (EndK C d StlV b r2 w)) (hk:C.Ok) (h:PaAt C w l d):
  Calls Tryz.prog 96 #[.pointer (some ⟨C.P,0,none⟩)] w (EndK C d StVal ⟨8,noB,.nil,xs,stsOf b,.nil,(hdT l).at_⟩ r2 w):=by
 obtain⟨x,hx⟩:∃x:St,x=⟨8,noB,.nil,xs,stsOf b,.nil,(hdT l).at_⟩:=⟨_,rfl⟩
 rw[←hx]
 have HX:=hdq hx
 obtain⟨k,hke⟩:∃k:Int,k=8:=⟨_,rfl⟩
 have hkk:k=keyK (hdT l).text :=by rw[hke,hk8]
 have hk0:k≠0:=by rw[hke];decide
 have HKE:=hdq hke
 have HOA:=hdq hoa
 have hL:=h.lts
 obtain⟨j,cap,m,hm0,hm1,hl,hmc,hcm,hb,p0,p1,f0,f1,t0,t1,t2,ltP,ltT⟩:=h.cells
 have hm2:m≤9223372036854775807:=by omega
 have hm3:(0:Int) < (m:Int):=by omega
 have htl:(hdT l).text.length ≤4096:=by
  have hd:=drop_head hl h.ne
  exact hk.len _ (List.mem_of_getElem? hd.1)
 obtain⟨a,ha⟩:∃a:Int,a=((hdT l).at_ :Int):=⟨_,rfl⟩
 obtain⟨tx,htx⟩:=nmq (txt (hdT l))
 have h64:in64 a:=by rw[ha];exact in64_at hk h
 rw[←ha]at t2
 rw[←htx]at t1
 have HA:=hdq ha
 obtain⟨w1,hw1⟩:=nmq ((w.alloc (.cells zeroSt 133)).alloc (.cells #[.int .u8 0,.string ⟨#[]⟩,.slice none 0 0,.slice none 0 0,.slice none 0 0,.slice none 0 0,.int .i64 a] 133))
 obtain⟨hb1,hb2,hf1⟩:=stmt_boxes w w1 a hw1
 have hz:w1.heap.size=w.heap.size+2:=by rw[hw1];simp
 have hlive:(hdT l).live :=keyK_live (by rw[←hkk];exact hk0)
 have HLV:=hdq hlive
 have e1:(!(k==0))=true:=by simpa using hk0
 have hlk:∀(W:World) (b:Nat),KwM W b 7 kwTab→(Instr.lookup 212 (.map (some b)) (.string tx) true).run Tryz.prog W= .ok (.tuple #[.agg #[.int .u8 k,.func (.func (kwF k)) #[] #[]],.bool true]) W:=fun W b hW=>by
  have:=look_any (w:=w) hkk htx htl hW
  rw[if_neg hk0,e1]at this
  exact this
 have p10:=(hf1.cell (p:=⟨C.P,0,none⟩) ltP id).trans p0
 have t11:=(hf1.cell (p:=⟨C.TB,j*3+1,none⟩) ltT id).trans t1
 have hP1:C.P < w1.heap.size:=by omega
 have hT1:C.TB < w1.heap.size:=by omega
 have HLK:=hdq hlk
 have HKK:=hdq hkk
 have HK0:=hdq hk0
 have HRA:=hdq (fun(wk w9:World) (u0 u1:Value) (hfk:Fr NoT w1 wk) h9=>stmR_a (C:=C) (u0:=u0) (u1:=u1) (w9:=w9) hL h64 h hb1 hb2 hz hf1 hfk h9)
 have HRB:=hdq (fun(wa wk w9:World) (z0 z1 u0 u1:Value) (hfa:Fr NoT w1 wa) hba (hfk:Fr NoT wa wk) h9=>stmR_b (C:=C) (u0:=u0) (u1:=u1) (z0:=z0) (z1:=z1) (w9:=w9) hL h64 h hb1 hb2 hz hf1 hfa hba hfk h9)
 have HW1:=hdq hw1
 have HZ:=hdq hz
 have HBK:=hdq hbk
 have HK:=hdq hk
 have HL:=hdq hL
 have HF1:=hdq hf1
 clear hx hke hk8 hoa hb hm0 hl ha htx hkk hk0 e1 hlk hw1 hb1 hb2 hz hf1 h hbk hk hL hlive htl h64
 go_enter Tryz.func96,Tryz.ntmps96
 go_wp2_with fail
 rw[show(w.alloc (.cells #[.int .u8 0,.string ⟨#[]⟩,.slice none 0 0,.slice none 0 0,.slice none 0 0,.slice none 0 0,.int .i64 0] 133)).alloc (.cells #[.int .u8 0,.string ⟨#[]⟩,.slice none 0 0,.slice none 0 0,.slice none 0 0,.slice none 0 0,.int .i64 a] 133)=w1 from HW1.out.symm]
 clear p0 t1 t2 p1 f0 f1 t0
 go_region_held2 (fun W'=>W'.cell? ⟨C.P,0,none⟩=some (.slice (some ⟨C.TB,j*3,none⟩) m cap)∧W'.cell? ⟨C.TB,j*3+1,none⟩=some (.string tx))
  (first
   |(refine⟨?_,?_⟩<;>with_reducible assumption)
   |(refine⟨(Fr.cell (T:=fun b=>b=gb) (w:=wk) ?_ hPk hPg).trans hpk,(Fr.cell (T:=fun b=>b=gb) (w:=wk) ?_ hTk hTg).trans htk⟩
     all_goals(subst hgb;repeat(first|exact Fr.refl _ _|refine Fr.alloc ?_ _|refine Fr.own ?_ _ _)))
   |(refine⟨(Fr.cell (T:=NoT) (w:=w1) ?_ hP1 id).trans p10,(Fr.cell (T:=NoT) (w:=w1) ?_ hT1 id).trans t11⟩
     all_goals(repeat(first|exact Fr.refl _ _|refine Fr.alloc ?_ _|refine Fr.drew ?_))))
  (first
   |(go_at_call 128
     refine(keywords_any w1.drew).mono ?_
     rintro _ wk ⟨kb,rfl,hkb,hkm,hfk⟩
     have hl1:=HLK.out _ _ hkm
     have hl2:=HLK.out _ _ (hkm.kept (World.grownBy_alloc wk (.cells #[.int .u8 0,.nilFunc] 210) none) (by simp))
     have hfk1:Fr NoT w1 wk:=(Fr.drew (Fr.refl _ _)).trans hfk
     have hpk:=(hfk1.cell (p:=⟨C.P,0,none⟩) hP1 id).trans p10
     have htk:=(hfk1.cell (p:=⟨C.TB,j*3+1,none⟩) hT1 id).trans t11
     have hPk:=ltq hP1 hfk1.size
     have hTk:=ltq hT1 hfk1.size
     obtain⟨gb,hgb⟩:=nmq wk.heap.size
     have hPg:¬C.P=gb:=by omega
     have hTg:¬C.TB=gb:=by omega
     have HE:=hdq (fun w9 h9=>HRA.out wk w9 (.int .u8 k) (.func (.func (kwF k)) #[] #[]) hfk1 h9)
     clear hkm hfk)
   |(go_at_call 128
     refine(keywords_any (w1.alloc (.cells #[.int .u8 0,.nilFunc] 210)).drew).mono ?_
     rintro _ wk ⟨kb,rfl,hkb,hkm,hfk⟩
     have hl1:=HLK.out _ _ hkm
     have hfa:Fr NoT w1 (w1.alloc (.cells #[.int .u8 0,.nilFunc] 210)).drew :=Fr.drew ((Fr.refl _ _).alloc _)
     have hba:Bk (w1.alloc (.cells #[.int .u8 0,.nilFunc] 210)).drew w1.heap.size 210 #[.int .u8 0,.nilFunc]:=Bk.new _ _ _
     have hfk1:Fr NoT w1 wk:=hfa.trans hfk
     have hpk:=(hfk1.cell (p:=⟨C.P,0,none⟩) hP1 id).trans p10
     have htk:=(hfk1.cell (p:=⟨C.TB,j*3+1,none⟩) hT1 id).trans t11
     have hPk:=ltq hP1 hfk1.size
     have hTk:=ltq hT1 hfk1.size
     obtain⟨gb,hgb⟩:=nmq w1.heap.size
     have hPg:¬C.P=gb:=by omega
     have hTg:¬C.TB=gb:=by omega
     have hbk:=hba.fr0 hfk
     have q0:=hbk.cell 0
     have q1:=hbk.cell 1
     have g0:=hbk.frozen 0
     have g1:=hbk.frozen 1
     have hgl:=hbk.lt
     simp only[getsL]at q0 q1
     have HE:=hdq (fun w9 h9=>HRB.out _ wk w9 (.int .u8 0) .nilFunc (.int .u8 k) (.func (.func (kwF k)) #[] #[]) hfa hba hfk h9)
     clear hkm hfk hba hfa hbk))
 all_goals
  have hS:=HE.out _ rfl
  have hps:=pass_any C l d _ HK.out hS.pa HLV.out
  unfold pP PassP tkV at hps
  have HS:=hdq hS
  have HPS:=hdq hps
  have HG:=hdq hgb
  have hgs:w.heap.size+2≤gb:=by rw[hgb];have:=hfk1.size;have:=HZ.out;omega
  clear hl1 hpk htk hPk hTk hPg hTg hS hps HE hgb
  try clear hl2
  try clear q0 q1 g0 g1 hgl
  go_wp2_with fail
  refine HPS.out.mono ?_
  rintro e w10 ⟨rfl,hp,hf⟩
  have hL:=HL.out
  have hbg:=HS.out.beg.fr hf (fun e=>by have e:_=C.P:=e;have:=HG.out;omega)
  rw[←HG.out]at hbg ⊢
  have hst:=HS.out.st.fr hf (by omega) (by omega)
  have hsl:w.heap.size+1 < w10.heap.size:=by
   obtain⟨q,hq,_⟩:=hst
   exact hq.lt
  have hrs:=HS.out.res.fr hf (fun e=>by have e:w.heap.size=C.P:=e;omega)
  have hfw:=HS.out.fr.any.trans hf
  obtain⟨w11,hw11⟩:=nmq (w10.setCell ⟨w.heap.size+1,0,none⟩ (.int .u8 k))
  have hst1:=hst.kind (k:=k) (by rcases keyK_cases (hdT l).text with h|h|h|h|h|h|h|h<;>unfold in8<;>have:=HKK.out<;>omega)
  have hfs:Fr (fun b=>b=w.heap.size+1) w10 w11:=by rw[hw11];exact Fr.own (Fr.refl _ _) _ _
  rw[←hw11]at hst1
  have hb1:=(hbg.fr hfs (fun e=>by have e:gb=w.heap.size+1:=e;omega)).cell 1
  have hb0:=hbg.cell 0
  have hp1:PaAt C w11 l.tail d:=hp.fr hfs (fun e=>by have e:C.P=w.heap.size+1:=e;omega) (fun e=>by have e:C.TB=w.heap.size+1:=e;omega) (fun i hi e=>by have e:i=w.heap.size+1:=e;omega)
  have hwd0:=loop_ok C (w.heap.size+1) (w.heap.size+2) _ l.tail d w11 xs r1 b r2 HOA.out HBK.out HK.out hp1 hst1 (by omega) (by omega) (by omega) (by omega) (by have:=hfs.size;omega)
  rw[show 170=kwF k from by rw[HKE.out];rfl]at hwd0
  have hwd:Calls Tryz.prog (kwF k) #[.pointer (some ⟨C.P,0,none⟩),.pointer (some ⟨w.heap.size+1,0,none⟩)] w11 (MetK C (w.heap.size+1) (w.heap.size+2) d x r2 w11):=by
   rw[HX.out,←HKE.out,←HA.out]
   exact hwd0
  unfold MetK at hwd
  clear hwd0
  obtain⟨q,hq,_⟩:=hst
  have s0:=hq.cell 0
  have z0:=hq.frozen 0
  simp only[stC,List.getElem?_toArray,List.getElem?_cons_succ,List.getElem?_cons_zero]at s0 hb0 hb1
  rw[hw11]at hwd hb1
  have HWD:=hdq hwd
  have HRS:=hdq (hrs.fr hfs (fun e=>by have e:w.heap.size=w.heap.size+1:=e;omega))
  have HFW:=hdq ((PT.l hfw (rb:=w.heap.size+1)).trans (hfs.mono fun i _ h=> .inr h))
  have HW11:=hdq hw11
  have hent:=kw_enters k
  unfold Enters at hent
  clear hp hf hbg hrs hfw hst1 hp1 hwd hw11 hfs hL hq
  go_wp2_with fail
  refine HWD.out.mono ?_
  rintro _ w12 ⟨rfl,⟨p,hb,hs⟩,hp,hf⟩
  have hlL:=HL.out
  ·rw[←HW11.out]at hf
   have hrb:=HRS.out.fr hf (fun e=>by rcases e with e|e<;>omega)
   have b0:=hb.cell 0
   have b1:=hb.cell 1
   have b2:=hb.cell 2
   have b3:=hb.cell 3
   have b4:=hb.cell 4
   have b5:=hb.cell 5
   have b6:=hb.cell 6
   have r0:=hrb.cell 0
   have r1:=hrb.cell 1
   have r2:=hrb.cell 2
   have r3:=hrb.cell 3
   have r4:=hrb.cell 4
   have r5:=hrb.cell 5
   have r6:=hrb.cell 6
   have y0:=hrb.frozen 0
   have y1:=hrb.frozen 1
   have y2:=hrb.frozen 2
   have y3:=hrb.frozen 3
   have y4:=hrb.frozen 4
   have y5:=hrb.frozen 5
   have y6:=hrb.frozen 6
   simp only[stC,List.getElem?_toArray,List.getElem?_cons_succ,List.getElem?_cons_zero]at b0 b1 b2 b3 b4 b5 b6 r0 r1 r2 r3 r4 r5 r6
   have hlt:=hrb.lt
   have HSS:=hdq hs
   have HPP:=hdq hp
   have HFF:=hdq (HFW.out.trans hf)
   clear hb hs hp hf hrb hlL
   go_wp2_with fail
   refine bodyPost_ret (v:= .agg #[.int .u8 x.k,.string x.nm,.slice p.A x.args.len p.c,.slice p.B x.cond.len p.q,.slice p.D x.body.len p.e,.slice p.E x.els.len p.f,.int .i64 x.at_]) (by simp[results,Tryz.results96,go_sem,r0,r1,r2,r3,r4,r5,r6,hlt]) rfl ?_
   exact stmt_fin HL.out HSS.out HPP.out HFF.out rfl

theorem stK_ways {C:Pcx} {d:Nat} {x:St} {l:List Tk} {W w':World} {e:Ending} (h:EndK C d StVal x l W e w'):
  ∃p:Loc,e= .returned (.agg #[.int .u8 x.k,.string x.nm,.slice p.A x.args.len p.c,.slice p.B x.cond.len p.q,.slice p.D x.body.len p.e,.slice p.E x.els.len p.f,.int .i64 x.at_])∧StS w' (New W.heap.size w') x p∧PaAt C w' l d∧Fr C.T W w':=by
 obtain⟨v,rfl,⟨p,rfl,hs⟩,hp,hf⟩:=h
 exact⟨p,rfl,hs,hp,hf⟩
def BlbK (C:Pcx) (lb d:Nat) (xs:List St) (l:List Tk) (W:World) (e:Ending) (w':World):Prop:=
 e= .returned (.tuple #[])∧(∃v,Bk w' lb 47 #[v]∧StlV w' W.heap.size v xs)∧PaAt C w' l d∧Fr (PT C lb) W w'
theorem blockb_ok (C:Pcx) (one:List Tk→PR St) (hless:∀l x r,one l= .ok x r→l≠ []→r.length < l.length) (l:List Tk) (d pb lb:Nat) (w:World) (xs:List St) (rr:List Tk) (hok:stmtsF one l.length [] l= .ok xs rr) (hone:∀l W x r,one l= .ok x r→PaAt C W l d→Calls Tryz.prog 96 #[.pointer (some ⟨C.P,0,none⟩)] W (EndK C d StVal x r W)) (hk:C.Ok) (h:PaAt C w l d) (hpb:Bk w pb 74 #[.pointer (some ⟨C.P,0,none⟩)]) (hpP:pb≠C.P) (hpl:pb≠lb)
  (hlbk:Bk w lb 47 #[.slice none 0 0]) (hlP:lb≠C.P) (hlT:lb≠C.TB) (hl0:C.W0.heap.size≤lb):
  Calls Tryz.prog 95 #[.pointer (some ⟨pb,0,none⟩),.pointer (some ⟨lb,0,none⟩)] w (BlbK C lb d xs rr w):=by
 obtain⟨i0,hi,hz0,hz1,hz2⟩:=info_parts infoSt
 have HI:=hdq (aiq hi (aiq hz0 (aiq hz1 hz2)))
 obtain⟨R,hR⟩:=nmq (stmtsF one l.length [] l)
 have HRK:=hdq (hR.trans hok)
 have hL:=h.lts
 have hfl:l.length≤5000:=by
  obtain⟨j,q,e,_⟩:=h.at_
  have:=hk.few
  rw[e,List.length_drop];omega
 have hlb:=hlbk.lt
 have hstart:BlkX C w d R one lb pb (.slice none 0 0) w [] [] l:=⟨⟨_,hR,lrq _⟩,hlbk,World.ownsRow_nil _ _ _ _,rfl,by simpa using hfl,h,Fr.refl _ _⟩
 have HST:=hdq hstart
 have HK:=hdq hk
 have HL:=hdq hL
 have HSC:=hdq hone
 have HLS:=hdq hless
 have HPB:=hdq hpb
 have HN:=hdq (aiq hpP (aiq hpl (aiq hlP (aiq hlT (aiq hl0 hlb)))))
 clear hR hok hone hless h hk hL hfl hstart hpb hlbk hi hz0 hz1 hz2 hpP hpl hlP hlT hl0 hlb
 go_enter Tryz.func95,Tryz.ntmps95
 go_wp2_with fail
 go_loopw [2] (fun _ wr=>∃(v:Value) (acc:List St) (cs:List Value) (r:List Tk),Hid (BlkX C w d R one lb pb v wr acc cs r)) (fun _ wr=>lenP C wr)
 case atStart=>exact⟨_, [], [],l,HST⟩
 case round=>
  obtain⟨v,acc,cs,r,hx⟩:=hrel
  have hp0:=(HPB.out.fr hx.out.fr (fun e=>by rcases e with e|e;exact HN.out.1 e;exact HN.out.2.1 e)).cell 0
  simp only[List.getElem?_toArray,List.getElem?_cons_zero]at hp0
  have HM:=hdq (may_any C [125] r d wr HK.out hx.out.pa (by decide))
  go_wp2_with fail
  refine HM.out.mono ?_
  rintro _ w2 ⟨rfl,hp,hf⟩
  obtain⟨f,hRf,hfr⟩:=hx.out.eq
  have hrl:0 < r.length:=List.length_pos_iff.2 hx.out.pa.ne
  obtain⟨f,rfl⟩:∃f',f=f'+1:=⟨f - 1,by omega⟩
  unfold stmtsF at hRf
  cases hm:mayB [125] r
  rotate_left
  ·rw[hm]at hRf hp
   replace hp:PaAt C w2 r.tail d:=hp
   replace hRf:R= .ok acc r.tail:=hRf
   have HRF:=hdq hRf
   have hrow:=row_keep hx.out.row hf HL.out.1
   have hrows:=hx.out.rows.imp (S':=fun b=>w.heap.size≤b∧b < w2.heap.size) (hf.same fun b hb=>⟨hb.2.1,fun e=>by have e:b=C.P:=e;have:=hb.1;have:=HL.out.1;omega⟩) (fun b hb=>⟨hb.1,ltq hb.2.1 hf.size⟩)
   have HSL:=hdq (blk_end hrow hrows (fun b hb=>hb) (by have:=hx.out.few;omega))
   have HLC:=hdq (hx.out.lcell.fr hf HN.out.2.2.1)
   have HP:=hdq hp
   have HFF:=hdq (hx.out.fr.trans (PT.l hf))
   clear hp hf hRf hrow hrows hm
   go_wp2_with fail
   go_end0
   have hxx:=HRF.out.symm.trans HRK.out
   simp only[PR.ok.injEq]at hxx
   obtain⟨rfl,rfl⟩:=hxx
   exact⟨rfl,⟨_,HLC.out,HSL.out⟩,HP.out,HFF.out⟩
  ·rw[hm]at hRf hp
   replace hp:PaAt C w2 r d:=hp
   replace hRf:R=(one r).then fun x r=>stmtsF one f (acc++ [x]) r:=hRf
   have hx2:=BlkX.next HL.out.1 HN.out.2.2.1 hx.out hf hp
   obtain⟨pA,vc,rfl,hvc,hvm⟩:=row_shape hx2.row
   obtain⟨m,hmm⟩:=nmq acc.length
   rw[←hmm]at hx2
   have hfew:m≤5000:=by have:=hx2.few;omega
   have hm0:(0:Int)≤(m:Int):=by omega
   have hm1:(m:Int) < (m:Int)+1:=by omega
   have hm2:(m:Int)+1≤9223372036854775807:=by omega
   have hrow2:=hx2.row
   have hcl:=hx2.rows.len
   have hl2:=hx2.lcell.cell 0
   have hlf2:=hx2.lcell.frozen 0
   have hpw:=(HPB.out.fr hx2.fr (fun e=>by rcases e with e|e;exact HN.out.1 e;exact HN.out.2.1 e)).cell 0
   simp only[List.getElem?_toArray,List.getElem?_cons_zero]at hl2 hpw
   rw[←hmm]at hrow2 hcl
   obtain⟨x,r3,hX⟩:∃x r3,one r= .ok x r3:=by
    cases ho:one r with
    |ok x r3=>exact⟨x,r3,rfl⟩
    |err c a=>exact absurd (HRK.out.symm.trans hRf) (by rw[ho];simp[PR.then])
   have HX:=hdq hX
   have HSE:=hdq (fun W (hW:Fr NoT w2 W)=>HSC.out r W x r3 hX (hp.fr hW id id fun _ _=>id))
   have HRL:=hdq (HLS.out r x r3 hX hx.out.pa.ne)
   have HX2:=hdq hx2
   have HRF:=hdq hRf
   have HMM:=hdq hmm
   have HFR:=hdq hfr
   have HROW:=hdq hrow2
   have HCL:=hdq hcl
   have hw2:w.heap.size≤w2.heap.size:=hx2.fr.size
   have hlbl:=HN.out.2.2.2.2.2
   have hpbl:=HPB.out.lt
   have hlb2:lb < w2.heap.size:=by omega
   have hpb2:pb < w2.heap.size:=by omega
   clear hX hp hf hx2 hRf hmm hfr hrow2 hcl hm hp0
   go_wp2_with fail
   go_region_law
    (first
     |(refine at_value _ _ _ (by rfl) ?_
       go_simp
       go_at_call 96
       with_reducible refine(HSE.out w2.drew (Fr.drew (Fr.refl _ _))).mono ?_
       intro e w7 hE
       obtain⟨p,rfl,hv,hp,hf⟩:=stK_ways hE
       have hf7:Fr C.T w2 w7:=(Fr.drew (Fr.refl C.T w2)).trans hf
       have hsz7:=hf7.size
       have hlb7:lb < w7.heap.size:=by omega
       have hl7:=(HX2.out.lcell.fr hf7 HN.out.2.2.1).cell 0
       have hlf7:=(HX2.out.lcell.fr hf7 HN.out.2.2.1).frozen 0
       simp only[List.getElem?_toArray,List.getElem?_cons_zero]at hl7
       have hp7:=(hf7.cell (p:=⟨pb,0,none⟩) hpb2 HN.out.1).trans hpw
       have hpb7:pb < w7.heap.size:=by omega
       have HV:=hdq hv
       have HP:=hdq hp
       have HF7:=hdq hf7
       have HR7:=hdq ((row_keep HROW.out hf7 HL.out.1).alloc (.cells #[.int .u8 0,.string ⟨#[]⟩,.slice none 0 0,.slice none 0 0,.slice none 0 0,.slice none 0 0,.int .i64 0] 133))
       have HNB:=hdq (Bk.new w7 133 zeroSt).news
       have HW:=hdq (show Fr NoT w7 (w7.alloc (.cells #[.int .u8 0,.string ⟨#[]⟩,.slice none 0 0,.slice none 0 0,.slice none 0 0,.slice none 0 0,.int .i64 0] 133))from(Fr.refl _ _).alloc _)
       have HLC:=hdq ((HX2.out.lcell.fr hf7 HN.out.2.2.1).alloc (.cells #[.int .u8 0,.string ⟨#[]⟩,.slice none 0 0,.slice none 0 0,.slice none 0 0,.slice none 0 0,.int .i64 0] 133))
       clear hv hp hf hf7
       dsimp only)
     |(refine at_value _ _ _ (by rfl) ?_
       go_simp
       go_at_call 96
       with_reducible refine(HSE.out (w2.alloc (.cells #[.int .u8 0,.string ⟨#[]⟩,.slice none 0 0,.slice none 0 0,.slice none 0 0,.slice none 0 0,.int .i64 0] 133)).drew (Fr.drew ((Fr.refl _ _).alloc _))).mono ?_
       intro e w7 hE
       obtain⟨p,rfl,hv,hp,hf⟩:=stK_ways hE
       have hf0:Fr C.T w2 (w2.alloc (.cells zeroSt 133)).drew :=Fr.drew ((Fr.refl C.T w2).alloc _)
       have hf7:Fr C.T w2 w7:=hf0.trans hf
       have hsz7:=hf7.size
       have hlb7:lb < w7.heap.size:=by omega
       have hl7:=(HX2.out.lcell.fr hf7 HN.out.2.2.1).cell 0
       have hlf7:=(HX2.out.lcell.fr hf7 HN.out.2.2.1).frozen 0
       simp only[List.getElem?_toArray,List.getElem?_cons_zero]at hl7
       have hp7:=(hf7.cell (p:=⟨pb,0,none⟩) hpb2 HN.out.1).trans hpw
       have hpb7:pb < w7.heap.size:=by omega
       have HV:=hdq (hv.imp (S':=New w2.heap.size w7) (SameS.refl _ _) fun b hb=>⟨leq9 hf0.size hb.1,hb.2⟩)
       have HP:=hdq hp
       have HF7:=hdq hf7
       have HR7:=hdq (row_keep HROW.out hf7 HL.out.1)
       have HNB:=hdq (((show Bk (w2.alloc (.cells zeroSt 133)).drew w2.heap.size 133 zeroSt from Bk.new _ _ _).fr hf (fun e=>by have e:w2.heap.size=C.P:=e;have:=HL.out.1;omega))).news
       have HW:=hdq (Fr.refl NoT w7)
       have HLC:=hdq (HX2.out.lcell.fr hf7 HN.out.2.2.1)
       clear hv hp hf hf7 hf0
       dsimp only)
     |(refine step_append_lies _ (by rfl) _ _ _ (by rfl) w.heap.size 133 i0 (.agg zeroSt) 7 128 Tryz.underlying47 HI.out.1 HI.out.2.1 HI.out.2.2.1 HI.out.2.2.2 rfl (by decide) (.slice pA m vc) m cs (by rfl) HR7.out ⟨w7.heap.size,0,none⟩ 1 1 zeroSt.toList (by rfl) (by rfl) HNB.out (by simp[zeroSt,Value.oneCell']) (by omega) (by unfold maxLen;omega) (by omega) (by rw[World.size_alloc];omega) (w7.heap.size+1) (World.size_alloc _ _) ?_
       intro gg cap w9 hown hgrow hsp hlt
       have hgg:=hown.lt gg rfl
       obtain⟨c0,c1,c2,c3,c4,c5,c6,cf⟩:=row_zero7 hown HCL.out
       have cf0:=cf (m*7)
       have cf1:=cf (m*7+1)
       have cf2:=cf (m*7+2)
       have cf3:=cf (m*7+3)
       have cf4:=cf (m*7+4)
       have cf5:=cf (m*7+5)
       have cf6:=cf (m*7+6)
       have hown7:=HR7.out.lt
       have hl9:=(hgrow.cell_far ⟨lb,0,none⟩ (by show lb < _;rw[World.size_alloc];omega) (fun e=>by have:=(hown7 lb e.symm).1;omega)).trans (HLC.out.cell 0)
       have hlf9:=(hgrow.frozen_far ⟨lb,0,none⟩ (by show lb < _;rw[World.size_alloc];omega) (fun e=>by have:=(hown7 lb e.symm).1;omega)).trans (HLC.out.frozen 0)
       simp only[List.getElem?_toArray,List.getElem?_cons_zero]at hl9
       have hne1:¬lb=gg:=by omega
       have hne2:¬gg=lb:=by omega
       have hrl:=HRL.out
       have HE:=hdq (fun w10 h10=>BlkX.stepN (w10:=w10) (f:=f) HMM.out HL.out HN.out.2.2.2.2.2 HN.out.2.2.1 HN.out.2.2.2.1 HN.out.2.2.2.2.1 HX2.out (by rw[HRF.out,HX.out];rfl) (by have:=HFR.out;omega) hrl HV.out HP.out HF7.out _ HW.out hown hgrow (hsp.imp id fun e=>by rw[World.size_alloc];exact e) h10)
       have HSW:=hdq hgrow.size
       clear hown cf hgrow hsp hown7 hrl)
     |(refine step_append_lies _ (by rfl) _ _ _ (by rfl) w.heap.size 133 i0 (.agg zeroSt) 7 128 Tryz.underlying47 HI.out.1 HI.out.2.1 HI.out.2.2.1 HI.out.2.2.2 rfl (by decide) (.slice pA m vc) m cs (by rfl) HR7.out ⟨w2.heap.size,0,none⟩ 1 1 zeroSt.toList (by rfl) (by rfl) HNB.out (by simp[zeroSt,Value.oneCell']) (by omega) (by unfold maxLen;omega) (by omega) (by omega) w7.heap.size rfl ?_
       intro gg cap w9 hown hgrow hsp hlt
       have hgg:=hown.lt gg rfl
       obtain⟨c0,c1,c2,c3,c4,c5,c6,cf⟩:=row_zero7 hown HCL.out
       have cf0:=cf (m*7)
       have cf1:=cf (m*7+1)
       have cf2:=cf (m*7+2)
       have cf3:=cf (m*7+3)
       have cf4:=cf (m*7+4)
       have cf5:=cf (m*7+5)
       have cf6:=cf (m*7+6)
       have hown7:=HR7.out.lt
       have hl9:=(hgrow.cell_far ⟨lb,0,none⟩ (by show lb < _;omega) (fun e=>by have:=(hown7 lb e.symm).1;omega)).trans (HLC.out.cell 0)
       have hlf9:=(hgrow.frozen_far ⟨lb,0,none⟩ (by show lb < _;omega) (fun e=>by have:=(hown7 lb e.symm).1;omega)).trans (HLC.out.frozen 0)
       simp only[List.getElem?_toArray,List.getElem?_cons_zero]at hl9
       have hne1:¬lb=gg:=by omega
       have hne2:¬gg=lb:=by omega
       have hrl:=HRL.out
       have HE:=hdq (fun w10 h10=>BlkX.stepN (w10:=w10) (f:=f) HMM.out HL.out HN.out.2.2.2.2.2 HN.out.2.2.1 HN.out.2.2.2.1 HN.out.2.2.2.2.1 HX2.out (by rw[HRF.out,HX.out];rfl) (by have:=HFR.out;omega) hrl HV.out HP.out HF7.out _ HW.out hown hgrow hsp h10)
       have HSW:=hdq hgrow.size
       clear hown cf hgrow hsp hown7 hrl))
   all_goals
    clear c0 c1 c2 c3 c4 c5 c6 cf0 cf1 cf2 cf3 cf4 cf5 cf6
    go_wp2_with fail
    go_roundw
    case rel=>
     first
      |exact⟨_,_,_,_,hdq (HE.out _ (.inl (by with_reducible rfl)))⟩
      |exact⟨_,_,_,_,hdq (HE.out _ (.inr (by with_reducible rfl)))⟩
    case measure=>
     first
      |exact blk_less (HE.out _ (.inl (by with_reducible rfl))) hx.out HRL.out
      |exact blk_less (HE.out _ (.inr (by with_reducible rfl))) hx.out HRL.out

def stmtQ (blk:List Tk→PR (List St)) (l:List Tk):PR St:=
 if keyK (hdT l).text =8 then(askQ l.tail).then fun c r=>(blk r).then fun b r=> .ok ⟨8,noB,.nil,c,stsOf b,.nil,(hdT l).at_⟩ r
 else if keyK (hdT l).text =0∧namedB l=true∧mayB [91] l.tail=false then(takeP [61] l.tail).then fun _ r=>(exprQ r).then fun x r=>(takeP [59] r).then fun _ r=> .ok ⟨2,txt (hdT l),x.cons .nil,.nil,.nil,.nil,(hdT l).at_⟩ r
 else .err 0 0
def blockQ:Nat→List Tk→PR (List St)
 |0,_=> .err 0 0
 |n+1,l=>if mayB [123] l then stmtsF (stmtQ (blockQ n)) l.tail.length [] l.tail else .err 0 0
theorem stmtQ_ok {blk:List Tk→PR (List St)} {l r:List Tk} {x:St} (h:stmtQ blk l= .ok x r):
  (keyK (hdT l).text =8∧∃c r1 b,askQ l.tail= .ok c r1∧blk r1= .ok b r∧x=⟨8,noB,.nil,c,stsOf b,.nil,(hdT l).at_⟩)∨
   (keyK (hdT l).text =0∧namedB l=true∧mayB [91] l.tail=false∧mayB [61] l.tail=true∧∃y r3,exprQ l.tail.tail= .ok y r3∧mayB [59] r3=true∧r=r3.tail∧x=⟨2,txt (hdT l),y.cons .nil,.nil,.nil,.nil,(hdT l).at_⟩):=by
 unfold stmtQ at h
 split at h
 ·rename_i h1
  obtain⟨c,r1,h2,h3⟩:=PR.then_ok h
  obtain⟨b,r2,h4,h5⟩:=PR.then_ok h3
  simp only[PR.ok.injEq]at h5
  exact .inl ⟨h1,c,r1,b,h2,by rw[h4,h5.2],h5.1.symm⟩
 ·split at h
  ·rename_i h0 h1
   obtain⟨u,r1,h2,h3⟩:=PR.then_ok h
   obtain⟨k2,rfl⟩:=takeP_ok h2
   obtain⟨y,r3,h4,h5⟩:=PR.then_ok h3
   obtain⟨u2,r4,h6,h7⟩:=PR.then_ok h5
   obtain⟨k6,rfl⟩:=takeP_ok h6
   simp only[PR.ok.injEq]at h7
   exact .inr ⟨h1.1,h1.2.1,h1.2.2,k2,y,r3,h4,k6,h7.2.symm,h7.1.symm⟩
  ·simp at h
theorem cmpQ_shr:Shr cmpQ:=fun l y r e=>by
 obtain⟨_,x,r1,z,h1,_,h2,_⟩:=cmpQ_ok e
 have a:=exprQ_shr _ _ _ h1
 have b:=exprQ_shr _ _ _ h2
 rw[List.length_tail]at b
 omega
theorem askQ_shr:Shr askQ:=fun l y r e=>by
 obtain⟨_,x,r1,h1,_,_,rfl⟩:=askQ_ok e
 have a:=cmpQ_shr _ _ _ (condQ_ok h1).1
 rw[List.length_tail]at a ⊢
 omega
theorem stmtQ_less {blk:List Tk→PR (List St)} (hb:Shr blk) (l:List Tk) (x:St) (r:List Tk) (h:stmtQ blk l= .ok x r) (hne:l≠ []):r.length < l.length:=by
 have hl:=List.length_pos_iff.2 hne
 rcases stmtQ_ok h with⟨_,c,r1,b,h1,h2,_⟩|⟨_,_,_,_,y,r3,h1,_,rfl,_⟩
 ·have a:=askQ_shr _ _ _ h1
  have b:=hb _ _ _ h2
  rw[List.length_tail]at a
  omega
 ·have a:=exprQ_shr _ _ _ h1
  rw[List.length_tail,List.length_tail]at a
  rw[List.length_tail]
  omega
theorem stmtsF_shrQ {one:List Tk→PR St} (h:∀l x r,one l= .ok x r→r.length≤l.length):∀(f:Nat) (acc:List St) (l:List Tk) (xs:List St) (r:List Tk),stmtsF one f acc l= .ok xs r→r.length≤l.length
 |0,acc,l,xs,r,e=>by simp only[stmtsF,PR.ok.injEq]at e;rw[e.2];exact lrq _
 |f+1,acc,l,xs,r,e=>by
  simp only[stmtsF]at e
  split at e
  ·simp only[PR.ok.injEq]at e;rw[←e.2,List.length_tail];omega
  ·obtain⟨x,q,h1,h2⟩:=PR.then_ok e
   exact leq9 (stmtsF_shrQ h f _ _ _ _ h2) (h _ _ _ h1)
theorem stmtQ_shr {blk:List Tk→PR (List St)} (hb:Shr blk):Shr (stmtQ blk):=fun l x r h=>by
 rcases stmtQ_ok h with⟨_,c,r1,b,h1,h2,_⟩|⟨_,_,_,_,y,r3,h1,_,rfl,_⟩
 ·have a:=askQ_shr _ _ _ h1
  have b:=hb _ _ _ h2
  rw[List.length_tail]at a
  omega
 ·have a:=exprQ_shr _ _ _ h1
  rw[List.length_tail,List.length_tail]at a
  rw[List.length_tail]
  omega
theorem blockQ_shr:∀n,Shr (blockQ n)
 |0=>fun l y r e=>by simp[blockQ]at e
 |n+1=>fun l y r e=>by
  simp only[blockQ]at e
  split at e
  ·have:=stmtsF_shrQ (stmtQ_shr (blockQ_shr n)) _ _ _ _ _ e
   rw[List.length_tail]at this
   omega
  ·simp at e
theorem block_ok (C:Pcx) (one:List Tk→PR St) (hless:∀l x r,one l= .ok x r→l≠ []→r.length < l.length) (l:List Tk) (d:Nat) (w:World) (xs:List St) (rr:List Tk) (hd:d < 24) (hm:mayB [123] l=true) (hok:stmtsF one l.tail.length [] l.tail= .ok xs rr) (hone:∀l W x r,one l= .ok x r→PaAt C W l (d+1)→Calls Tryz.prog 96 #[.pointer (some ⟨C.P,0,none⟩)] W (EndK C (d+1) StVal x r W)) (hk:C.Ok) (h:PaAt C w l d):
  Calls Tryz.prog 54 #[.pointer (some ⟨C.P,0,none⟩)] w (EndK C d StlV xs rr w):=by
 have hmf:= @makeF Tryz.prog
 have hL:=h.lts
 obtain⟨w1,hw1⟩:=nmq ((w.alloc (.cells #[.pointer (some ⟨C.P,0,none⟩)] 74)).alloc (.cells #[.slice none 0 0] 47))
 have hf1:Fr NoT w w1:=by rw[hw1];exact((Fr.refl _ _).alloc _).alloc _
 have hz1:w1.heap.size=w.heap.size+2:=by rw[hw1];simp
 have hpx:Bk w1 w.heap.size 74 #[.pointer (some ⟨C.P,0,none⟩)]:=by rw[hw1];exact(Bk.new _ _ _).alloc _
 have hbx:Bk w1 (w.heap.size+1) 47 #[.slice none 0 0]:=by rw[hw1];exact Bk.new_at _ _ _ (by simp)
 have h1:=h.fr hf1 id id fun _ _=>id
 have HW1:=hdq hw1
 have hent:=enters_of Tryz.func95 (by kernel_rfl) rfl
 have hbr:∀W,PaAt C W l.tail (d+1)→Fr C.T w1 W→Calls Tryz.prog 95 #[.pointer (some ⟨w.heap.size,0,none⟩),.pointer (some ⟨w.heap.size+1,0,none⟩)] W (BlbK C (w.heap.size+1) (d+1) xs rr W):=fun W hP hF=>
  blockb_ok C one hless l.tail (d+1) w.heap.size (w.heap.size+1) W xs rr hok hone hk hP (hpx.fr hF (fun e=>by have e:w.heap.size=C.P:=e;omega)) (by omega) (by omega) (hbx.fr hF (fun e=>by have e:w.heap.size+1=C.P:=e;omega)) (by omega) (by omega) (by omega)
 have hw:=within_ok C [123] 95 #[.pointer (some ⟨w.heap.size,0,none⟩),.pointer (some ⟨w.heap.size+1,0,none⟩)] l d w1 (fun w2=>(∃v,Bk w2 (w.heap.size+1) 47 #[v]∧StlV w2 (w.heap.size+2) v xs)∧PaAt C w2 rr (d+1)∧Fr (PT C (w.heap.size+1)) w1 w2) hk h1 (by decide) hm (by omega) hent (fun w2 h2=>⟨rr,h2.2.1⟩)
  (fun W hP hF=>(hbr W hP hF).mono fun e w2 hE=>⟨hE.1,by
   obtain⟨v,hv,hs⟩:=hE.2.1
   refine⟨v,hv,?_⟩
   obtain⟨A,c,e,hs⟩:=hs
   exact⟨A,c,e,hs.imp fun _ _ hx=>StR.more (fun b hb=>⟨by have:=hF.size;have:=hb.1;omega,hb.2⟩) hx⟩,hE.2.2.1,(PT.l hF).trans hE.2.2.2⟩)
 rw[hw1]at hw
 unfold WithinP pP at hw
 have HW:=hdq hw
 have HF1:=hdq hf1
 have HK:=hdq hk
 have HL:=hdq hL
 clear hw hw1 hf1 hz1 hpx hbx h1 h hk hent hm hbr hL
 go_enter Tryz.func54,Tryz.ntmps54
 go_wp2_with fail
 refine HW.out.mono ?_
 rintro _ w2 ⟨rfl,w3,⟨⟨v,hv,hsv⟩,hp,hf⟩,rfl⟩
 have hfd:Fr C.T w3 (w3.setCell ⟨C.P,1,none⟩ (.int .i64 d)):=(Fr.refl C.T w3).setCell (p:=⟨C.P,1,none⟩) (Or.inl C.Tp) _
 have hv3:=hv.fr hfd (fun e=>by have e:w.heap.size+1=C.P:=e;have:=HL.out;omega)
 have q0:=hv3.cell 0
 simp only[List.getElem?_toArray,List.getElem?_cons_zero]at q0
 rw[←HW1.out]at hf
 have HSV:=hdq (hsv.fr hfd (fun b h1 h2 e=>by have e:b=C.P:=e;have:=HL.out.1;omega))
 have HP:=hdq (hp.deep HK.out (d':=d) (v:=(d:Int)) rfl)
 have HF:=hdq (((HF1.out.any.trans hf).trans (PT.l hfd)).mono (T':=C.T) fun i hi e=>by
  rcases e with e|e
  ·exact e
  ·omega)
 clear hv hsv hp hf hfd hv3
 go_wp2_with fail
 refine bodyPost_ret (v:=v) (by simp[results,Tryz.results54,go_sem,q0]) rfl ⟨v,rfl,?_,HP.out,HF.out⟩
 obtain⟨A,c,e,hs⟩:=HSV.out
 exact⟨A,c,e,hs.imp fun _ _ hx=>StR.more (fun b hb=>⟨by have:=hb.1;omega,hb.2⟩) hx⟩

theorem blockQ_ok (C:Pcx) (hk:C.Ok):∀(n:Nat) (l:List Tk) (d:Nat) (xs:List St) (rr:List Tk),d+n≤24→blockQ n l= .ok xs rr→∀w,PaAt C w l d→Calls Tryz.prog 54 #[.pointer (some ⟨C.P,0,none⟩)] w (EndK C d StlV xs rr w)
 |0,l,d,xs,rr,_,h,w,hp=>by simp[blockQ]at h
 |n+1,l,d,xs,rr,hdn,h,w,hp=>by
  simp only[blockQ]at h
  split at h
  ·rename_i hm
   refine block_ok C _ (stmtQ_less (blockQ_shr n)) l d w xs rr (by omega) hm h (fun l W x r ho hW=>?_) hk hp
   rcases stmtQ_ok ho with⟨k8,c,r1,b,h1,h2,rfl⟩|⟨k0,k1,k2,k3,y,r3,h1,h2,rfl,rfl⟩
   ·exact stmt_while C l (d+1) W c r1 b r k8 h1 (blockQ_ok C hk n r1 (d+1) b r (by omega) h2) hk hW
   ·exact stmt_set0 C l (d+1) W y r3 k0 k1 k2 k3 h1 h2 hk hW
  ·simp at h

def Up {α:Type} (f g:List Tk→PR α):Prop:=∀l x r,f l= .ok x r→g l= .ok x r
theorem chainF_up {α:Type} {f g:List Tk→PR α} (h:Up f g) {join:Int→Int→α→α→α} {signs:List (List UInt8)}:∀(n:Nat) (x:α),Up (chainF f join signs n x) (chainF g join signs n x)
 |0,x=>fun l y r e=>e
 |n+1,x=>fun l y r e=>by
  simp only[chainF]at e ⊢
  split at e
  ·rename_i h1
   rw[if_pos h1];exact e
  ·rename_i h1
   rw[if_neg h1]
   obtain⟨a,q,h2,h3⟩:=PR.then_ok e
   rw[h _ _ _ h2]
   exact chainF_up h n _ _ _ _ h3
theorem chainP_up {α:Type} {f g:List Tk→PR α} (h:Up f g) {join:Int→Int→α→α→α} {signs:List (List UInt8)}:Up (chainP f join signs) (chainP g join signs):=fun l y r e=>by
 unfold chainP at e ⊢
 obtain⟨a,q,h2,h3⟩:=PR.then_ok e
 rw[h _ _ _ h2]
 exact chainF_up h _ _ _ _ _ h3
theorem signQ_up (n:Nat):Up signQ (signP n):=fun l x r e=>by
 unfold signQ at e
 split at e
 ·simp at e
 ·rename_i h0
  simp only[Bool.or_eq_true,not_or,Bool.not_eq_true]at h0
  cases h2:namedB l
  ·rw[if_neg (by rw[h2];decide)]at e
   rw[signP_n h0.1 h0.2 h2];exact e
  ·rw[if_pos h2]at e
   split at e
   ·simp at e
   ·rename_i h3
    rw[signP_v h0.1 h0.2 h2 (by simpa using h3)];exact e
theorem exprQ_up (n:Nat):Up exprQ (exprP n):=chainP_up (chainP_up (chainP_up (signQ_up n)))
theorem chainP_none {α:Type} {f:List Tk→PR α} {join:Int→Int→α→α→α} {signs:List (List UInt8)} {l r:List Tk} {x:α} (h:f l= .ok x r) (hn:isP signs r < 0):chainP f join signs l= .ok x r:=by
 unfold chainP
 rw[h]
 show chainF f join signs r.length x r=_
 cases r.length with
 |zero=>rfl
 |succ k=>simp only[chainF];rw[if_pos hn]
theorem cmpQ_up (n:Nat):Up cmpQ (notP n):=fun l c r e=>by
 obtain⟨h0,x,r1,y,h1,h2,h3,rfl⟩:=cmpQ_ok e
 rw[notP_c h0,cmpP_x (exprQ_up n _ _ _ h1),if_neg (by omega),exprQ_up n _ _ _ h3]
 rfl
theorem condQ_up (n:Nat):Up condQ (condP n):=fun l c r e=>by
 obtain⟨h1,h2,h3⟩:=condQ_ok e
 rw[condP_all]
 exact chainP_none (chainP_none (cmpQ_up n _ _ _ h1) h2) h3
theorem takeP_yes {s:List UInt8} {l:List Tk} (h:mayB s l=true):takeP s l= .ok () l.tail:=by unfold takeP;rw[if_pos h]
theorem askQ_up (n:Nat):Up askQ (askP n):=fun l c r e=>by
 obtain⟨h0,x,r1,h1,h2,rfl,rfl⟩:=askQ_ok e
 unfold askP
 rw[takeP_yes h0]
 show(condP n l.tail).then _=_
 rw[condQ_up n _ _ _ h1]
 show(takeP [41] r1).then _=_
 rw[takeP_yes h2]
 rfl
theorem stmtQ_up {f g:List Tk→PR (List St)} (h:Up f g) (n:Nat):Up (stmtQ f) (stmtOf g n):=fun l x r e=>by
 rcases stmtQ_ok e with⟨k8,c,r1,b,h1,h2,rfl⟩|⟨k0,k1,k2,k3,y,r3,h1,h2,rfl,rfl⟩
 ·unfold stmtOf
  simp only[k8]
  rw[if_neg (by decide),if_neg (by decide),if_neg (by decide),if_neg (by decide),if_pos (by trivial),askQ_up n _ _ _ h1]
  show(g r1).then _=_
  rw[h _ _ _ h2]
  rfl
 ·rw[stmtOf_set k0]
  unfold nameP
  rw[if_pos k1]
  show setO n (txt (hdT l)) _ l.tail=_
  unfold setO
  rw[if_neg (by rw[k2];decide)]
  unfold setE
  rw[takeP_yes k3]
  show(exprP n l.tail.tail).then _=_
  rw[exprQ_up n _ _ _ h1]
  show(takeP [59] r3).then _=_
  rw[takeP_yes h2]
  rfl
theorem stmtsF_up {f g:List Tk→PR St} (h:Up f g):∀(n:Nat) (acc:List St),Up (stmtsF f n acc) (stmtsF g n acc)
 |0,acc=>fun l y r e=>e
 |n+1,acc=>fun l y r e=>by
  simp only[stmtsF]at e ⊢
  split at e
  ·rename_i h1
   rw[if_pos h1];exact e
  ·rename_i h1
   rw[if_neg h1]
   obtain⟨a,q,h2,h3⟩:=PR.then_ok e
   rw[h _ _ _ h2]
   exact stmtsF_up h n _ _ _ _ h3
theorem blockQ_up:∀n,Up (blockQ n) (blockP n)
 |0=>fun l y r e=>by simp[blockQ]at e
 |n+1=>fun l y r e=>by
  simp only[blockQ]at e
  split at e
  ·rename_i hm
   rw[blockP_s hm]
   exact stmtsF_up (stmtQ_up (blockQ_up n) n) _ _ _ _ _ e
  ·simp at e
end Go.Proofs.YtphlnpaikpjakaaGreatDoor
