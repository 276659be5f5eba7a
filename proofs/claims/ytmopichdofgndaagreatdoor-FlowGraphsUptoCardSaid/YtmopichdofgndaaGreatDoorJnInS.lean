/- inline: statements with calls put in place. -/
import Derived.Test.YtmopichdofgndaaGreatDoorInCall
set_option linter.all false
set_option maxHeartbeats 3200000
set_option maxRecDepth 100000
namespace Go.Proofs.YtmopichdofgndaaGreatDoor
open Go.RowKit Go.Shelf Go.Maps
structure StSt (K:InK)(call:ByteArray->Exs->Nms->Int->Ist->Sts×Ist)(xs:Sts)(s:Ist)(n:Nms)(wr:World)(v vo:Value)(acc:List St)(cs:List Value)(si:Ist)(k:Nat)(v0:Value)(w:World)(b q:Nat):Prop where
 st:InAt K wr si v
 cm:si.calls<=si.many
 out:OutRow w.heap.size v wr vo acc cs
 nms:NmM wr b q n
 nb:InB K v b
 fr:Fr (InT K v0) w wr
 spot:SpotP w v0 v
 eq:(Sts.app (zao acc) (inlS call (Sts.drop k xs) n si).1,(inlS call (Sts.drop k xs) n si).2)=inlS call xs n s
 many:s.many+acc.length<=si.many
def StI (K:InK)(call:ByteArray->Exs->Nms->Int->Ist->Sts×Ist)(xs:Sts):Prop:=
 ∀(i:Nat)(a0:Int)(a1:ByteArray)(a2:Exs)(a3:Cds)(a4 a5:Sts)(a6:Int)(ar:Sts),Sts.drop i xs= .cons a0 a1 a2 a3 a4 a5 a6 ar->StC K (inlS call) a4/\StC K (inlS call) a5/\a1.size<=9223372036854775807/\szX a2/\szC a3
def CaPC (K:InK)(call:ByteArray->Exs->Nms->Int->Ist->Sts×Ist)(xs:Sts):Prop:=
 ∀(i:Nat)(a1:ByteArray)(a2:Exs)(a3:Cds)(a4 a5:Sts)(a6:Int)(ar:Sts),Sts.drop i xs= .cons 9 a1 a2 a3 a4 a5 a6 ar->∀(w:World)(s:Ist)(v:Value)(n:Nms)(b q:Nat)(A2:Option Addr)(c2:Nat)(V3 V4 V5:Value),InAt K w s v->s.calls<=s.many->zaT s=false->NmM w b q n->InB K v b->SlR (λb o=>ExR K.W0 K.S False a2 b o) a2.len 64 A2 c2->in64 a6->
  Calls Tryz.prog 83 #[.pointer (some ⟨K.P,0,none⟩),.agg #[.int .u8 9,.string a1,.slice A2 a2.len c2,V3,V4,V5,.int .i64 a6],.map (some b)] w (InP K (call a1 a2 n a6 s) s w v)
theorem StSt.next {K:InK}{call:ByteArray->Exs->Nms->Int->Ist->Sts×Ist}{xs:Sts}{s:Ist}{n:Nms}{wr:World}{vk vo:Value}{acc:List St}{cs:List Value}{si:Ist}{k:Nat}{v:Value}{w:World}{b q:Nat}
  (h:StSt K call xs s n wr vk vo acc cs si k v w b q) (hL:K.P < w.heap.size/\K.bp < w.heap.size/\b < w.heap.size/\K.W0.heap.size<=w.heap.size) {a0:Int} {a1 DL:ByteArray} {a2:Exs} {a3:Cds} {a4 a5:Sts} {a6:Int} {ar:Sts} (hd:Sts.drop k xs= .cons a0 a1 a2 a3 a4 a5 a6 ar) (Ja:zaT si=false) (h9:¬a0=9) (Fi:DL=if a0=3 then a1 else ofN n a1) (r0:in8 a0) (r1:in64 a6)
  {w8 w9 DI DO DN DQ DY DR Ee:World} (Gj:Fr (λi=>i=K.P\/i=wr.heap.size) wr w8) (TI:wr.heap.size < w8.heap.size) (Gm:Fr NoT w8 w9) (Fo:Fr NoT w9 DI) (FC:Fr (λi=>i=wr.heap.size) DI DO)
  {X2 X3 A4 A5:Option Addr} {x2 x3 c4 c5:Nat} (Ft:SlR (λb o=>ExR w9 (New w8.heap.size w9) True (zar n a2) b o) a2.len 64 X2 x2) (Kj:SlR (λb o=>CdR DI (New w9.heap.size DI) True (zaJ n a3) b o) a3.len 64 X3 x3)
  {s1 s2 s3:Ist} (Fs:s1=⟨si.calls,si.vars,si.many+1⟩) {v12 DV:Value} {DG DH:List St} (e2:(inlS call a4 n s1).2 =s2) (e3:(inlS call a5 n s2).2 =s3) (Nc:(inlS call a4 n s1).1 =zao DG) (Nd:(inlS call a5 n s2).1 =zao DH)
  (FV:Fr (InT K vk) DO DN) (Jb:SpotP DO vk v12) (QI:SlR (λb o=>StR DN (λi=>DO.heap.size<=i/\i < DN.heap.size/\v12.ownBlock≠some i) True (zao DG) b o) DG.length 128 A4 c4) (LD:s1.many+DG.length<=s2.many)
  (QJ:InAt K DQ s3 DV) (Jx:Fr (InT K v12) DN DQ) (Jv:SpotP DN v12 DV) (QK:SlR (λb o=>StR DQ (λi=>DN.heap.size<=i/\i < DQ.heap.size/\DV.ownBlock≠some i) True (zao DH) b o) DH.length 128 A5 c5) (PW:s2.many+DH.length<=s3.many) (Nf:s3.calls<=s3.many)
  (FW:Fr (λi=>i=wr.heap.size) DQ DY) (Fq:Fr NoT DY DR) {DX:Value} (Hg:Ee.ownsRow w.heap.size 39 7 DX (acc.length+1) (cs++ [.int .u8 a0,.string DL,.slice X2 a2.len x2,.slice X3 a3.len x3,.slice A4 DG.length c4,.slice A5 DH.length c5,.int .i64 a6])) (hg:DR.grownBy Ee vo.ownBlock) (GP:DX.ownBlock=vo.ownBlock\/DX.ownBlock=some DR.heap.size):
  StSt K call xs s n Ee DV DX (acc++ [⟨a0,DL,zar n a2,zaJ n a3,zao DG,zao DH,a6⟩]) (cs++ [.int .u8 a0,.string DL,.slice X2 a2.len x2,.slice X3 a3.len x3,.slice A4 DG.length c4,.slice A5 DH.length c5,.int .i64 a6]) s3 (k+1) v w b q:=by
 obtain⟨XK,xJ,xK,TW⟩:=hL;have z0:=h.fr.size;have z9:=Gm.size;have z10:=Fo.size;have z11:=FC.size;have z12:=FV.size;have z13:=Jx.size;have z14:=FW.size;have z15:=Fq.size;have T5:∀i,vk.ownBlock=some i->i < wr.heap.size:=λi hi=>by obtain⟨c9,h9,_⟩:=h.st.row;exact(zaf h9 hi).2
 have Mh:∀i,v12.ownBlock=some i->vk.ownBlock=some i\/DO.heap.size<=i:=λi hi=>by
  rcases Jb with e|⟨g,e,FI⟩
  ·exact .inl (e▸hi)
  ·rw[e]at hi;have:=Option.some.inj hi;exact .inr (by omega)
 have Sf:∀i,DV.ownBlock=some i->v12.ownBlock=some i\/DN.heap.size<=i:=λi hi=>by
  rcases Jv with e|⟨g,e,FI⟩
  ·exact .inl (e▸hi)
  ·rw[e]at hi;have:=Option.some.inj hi;exact .inr (by omega)
 have Mi:∀i,DV.ownBlock=some i->vk.ownBlock=some i\/DO.heap.size<=i:=λi hi=>by
  rcases Sf i hi with e|e
  ·exact Mh i e
  ·exact .inr (by omega)
 have Sg:∀i,DV.ownBlock=some i->i < DQ.heap.size:=λi hi=>by obtain⟨c9,h9,_⟩:=QJ.row;exact(zaf h9 hi).2
 have PX:∀i,vo.ownBlock=some i->w.heap.size<=i/\i < wr.heap.size:=λi hi=>zaf h.out.row hi;have Sh:SpotP wr vk DV:=(Jb.trans Jv z12).trans (SpotP.refl DQ DV) (by omega) |> λk=>by
  rcases k with e|⟨g,e,FI⟩
  ·exact .inl e
  ·exact .inr ⟨g,e,by omega⟩
 -- frames
 have f10:Fr (InT K vk) wr DI:=Fr.thenT (Fr.thenT (Fr.thenT (Fr.refl _ _) Gj λi hi e=>(by rcases e with e|e;exact .inl e;omega)) Gm λ_ _ e=>e.elim) Fo λ_ _ e=>e.elim;have f12:Fr (InT K vk) wr DN:=(Fr.thenT f10 FC λi hi e=>(by have e:i=wr.heap.size:=e;omega)).trans FV;have f13:Fr (InT K vk) wr DQ:=Fr.thenT f12 Jx λi hi e=>by
  rcases e with e|e
  ·exact .inl e
  ·rcases Mh i e with k9|k9
   ·exact .inr k9
   ·omega
 have f15:Fr (InT K vk) wr DR:=Fr.thenT (Fr.thenT f13 FW λi hi e=>(by have e:i=wr.heap.size:=e;omega)) Fq λ_ _ e=>e.elim;have Ep:∀i,w8.heap.size<=i->¬(i=wr.heap.size):=λi hi e=>by omega
 have Mj:∀i,w8.heap.size<=i->i < DO.heap.size->¬InT K vk i:=λi h1 h2 e=>by
  rcases e with e|e
  ·omega
  ·have:=T5 i e;omega
 have Ml:∀i,w8.heap.size<=i->i < DO.heap.size->¬InT K v12 i:=λi h1 h2 e=>by
  rcases e with e|e
  ·omega
  ·rcases Mh i e with k9|k9
   ·have:=T5 i k9;omega
   ·omega
 have s9:SameS (New w8.heap.size w9) w9 DR:=(((((Fo.same λi hi=>⟨hi.2,id⟩).trans (FC.same λi hi=>⟨by have:=hi.2;omega,Ep i hi.1⟩)).trans (FV.same λi hi=>⟨by have:=hi.2;omega,Mj i hi.1 (by have:=hi.2;omega)⟩)).trans (Jx.same λi hi=>⟨by have:=hi.2;omega,Ml i hi.1 (by have:=hi.2;omega)⟩)).trans (FW.same λi hi=>⟨by have:=hi.2;omega,Ep i hi.1⟩)).trans (Fq.same λi hi=>⟨by have:=hi.2;omega,id⟩);have s10:SameS (New w9.heap.size DI) DI DR:=((((FC.same λi hi=>⟨hi.2,Ep i (by have:=hi.1;omega)⟩).trans (FV.same λi hi=>⟨by have:=hi.2;omega,Mj i (by have:=hi.1;omega) (by have:=hi.2;omega)⟩)).trans (Jx.same λi hi=>⟨by have:=hi.2;omega,Ml i (by have:=hi.1;omega) (by have:=hi.2;omega)⟩)).trans (FW.same λi hi=>⟨by have:=hi.2;omega,Ep i (by have:=hi.1;omega)⟩)).trans (Fq.same λi hi=>⟨by have:=hi.2;omega,id⟩);have s12:SameS (λi=>DO.heap.size<=i/\i < DN.heap.size/\v12.ownBlock≠some i) DN DR:=((Jx.same λi hi=>⟨hi.2.1,λe=>by
   rcases e with e|e
   ·have:=hi.1;omega
   ·exact hi.2.2 e⟩).trans (FW.same λi hi=>⟨by have:=hi.2.1;omega,Ep i (by have:=hi.1;omega)⟩)).trans (Fq.same λi hi=>⟨by have:=hi.2.1;omega,id⟩)
 have s13:SameS (λi=>DN.heap.size<=i/\i < DQ.heap.size/\DV.ownBlock≠some i) DQ DR:=(FW.same λi hi=>⟨hi.2.1,Ep i (by have:=hi.1;omega)⟩).trans (Fq.same λi hi=>⟨by have:=hi.2.1;omega,id⟩);have Ge:One1 [.int .u8 a0,.string DL,.slice X2 a2.len x2,.slice X3 a3.len x3,.slice A4 DG.length c4,.slice A5 DH.length c5,.int .i64 a6]:=by
  intro u hu;simp only[List.mem_cons,List.not_mem_nil,or_false]at hu;rcases hu with rfl|rfl|rfl|rfl|rfl|rfl|rfl<;>rfl
 have Ku:∀i,w8.heap.size<=i->i < DO.heap.size->DV.ownBlock≠some i:=λi h1 h2 e=>by
  rcases Mi i e with k9|k9
  ·have:=T5 i k9;omega
  ·omega
 have WB:oneS DR (OutS w.heap.size vo DV DR) ⟨a0,DL,zar n a2,zaJ n a3,zao DG,zao DH,a6⟩ [.int .u8 a0,.string DL,.slice X2 a2.len x2,.slice X3 a3.len x3,.slice A4 DG.length c4,.slice A5 DH.length c5,.int .i64 a6]:=by
  refine⟨X2,x2,X3,x3,A4,c4,A5,c5,by simp only[zaC,zaO,za8],r0,r1,?_,?_,?_,?_⟩
  ·show SlR _ (zar n a2).len 64 X2 x2
   rw[zaC];exact Ft.imp λ_ _ hx=>ExR.more (λi hi=>⟨by have:=hi.1;omega,by have:=hi.2;omega,λe=>by have:=PX i e;have:=hi.1;omega,Ku i hi.1 (by have:=hi.2;omega)⟩) (ExR.keep s9 hx)
  ·show SlR _ (zaJ n a3).len 64 X3 x3
   rw[zaO];exact Kj.imp λ_ _ hx=>CdR.more (λi hi=>⟨by have:=hi.1;omega,by have:=hi.2;omega,λe=>by have:=PX i e;have:=hi.1;omega,Ku i (by have:=hi.1;omega) (by have:=hi.2;omega)⟩) (CdR.keep s10 hx)
  ·show SlR _ (zao DG).len 128 A4 c4
   rw[za8];exact QI.imp λ_ _ hx=>StR.more (λi hi=>⟨by have:=hi.1;omega,by have:=hi.2.1;omega,λe=>by have:=PX i e;have:=hi.1;omega,λe=>by
    rcases Sf i e with k9|k9
    ·exact hi.2.2 k9
    ·have:=hi.2.1;omega⟩) (StR.keep s12 hx)
  ·show SlR _ (zao DH).len 128 A5 c5
   rw[za8];exact QK.imp λ_ _ hx=>StR.more (λi hi=>⟨by have:=hi.1;omega,by have:=hi.2.1;omega,λe=>by have:=PX i e;have:=hi.1;omega,hi.2.2⟩) (StR.keep s13 hx)
 have Mm:=h.out.keep f15 Sh XK;obtain⟨PY,Jn⟩:=Mm.step (ys:= [⟨a0,DL,zar n a2,zaJ n a3,zao DG,zao DH,a6⟩]) ⟨_, [],by simp,WB,rfl⟩ Ge Hg hg GP (λi hi=>by have:=Sg i hi;omega);have kS:∀i,DV.ownBlock=some i->¬i=wr.heap.size:=λi hi e=>by
  rcases Mi i hi with k9|k9
  ·have:=T5 i k9;omega
  ·omega
 have kT:InAt K DR s3 DV:=(QJ.frT FW (λi e=>by have e:i=wr.heap.size:=e;omega) (λe=>by have e:K.P=wr.heap.size:=e;omega) (λe=>by have e:K.bp=wr.heap.size:=e;omega) kS).fr0 Fq;have hT:∀i,vo.ownBlock=some i->w.heap.size<=i:=λi hi=>(PX i hi).1;have Vw:DV.ownBlock≠some b:=λe=>by
  rcases Mi b e with k9|k9
  ·exact h.nb.v k9
  ·omega
 refine⟨kT.frT Jn (λi hi=>by have:=hT i hi;omega) (λe=>by have:=hT _ e;omega) (λe=>by have:=hT _ e;omega) (λi hi e=>Mm.ne i e hi),Nf,PY,?_,⟨h.nb.p,h.nb.m,Vw⟩,?_,h.spot.trans Sh z0,?_,?_⟩
 ·refine(h.nms.fr f15 λe=>?_).fr Jn λe=>by have:=hT _ e;omega
  rcases e with e|e
  ·exact h.nb.p e
  ·exact h.nb.v e
 ·refine Fr.thenT (Fr.thenT h.fr f15 λi hi e=>?_) Jn λi hi e=>by have:=hT i e;omega
  rcases e with e|e
  ·exact .inl e
  ·rcases h.spot with k9|⟨g9,k9,FI⟩
   ·exact .inr (k9▸e)
   ·rw[k9]at e;have:=Option.some.inj e;omega
 ·rw[zbb,zbs,<-h.eq,hd,Sts.drop_succ k xs hd]
  conv=>rhs;unfold inlS
  rw[if_neg (by rw[Ja];simp),if_neg h9,<-Fs,e2,e3,Nc,Nd,<-Fi];rfl
 ·have:=h.many;rw[List.length_append];rw[Fs]at LD;simp only[List.length_cons,List.length_nil]at LD ⊢;omega
theorem zfo (K:InK)(hk:K.Ok)(call:ByteArray->Exs->Nms->Int->Ist->Sts×Ist)(xs:Sts)(Gb:StI K call xs)(Mn:CaPC K call xs):StC K (inlS call) xs:=by
 intro w s v n b q A c h Js hn hb hx;have hl:xs.len<=9223372036854775807:=leq9 hx.1 hx.2.1.1;obtain⟨m,hm⟩:=nmq xs.len;have Hj:=hdq (show StSt K call xs s n w v (.slice none 0 0) [] [] s 0 v w b q from⟨h,Js,OutRow.nil _ _ _,hn,hb,Fr.refl _ _,SpotP.refl _ _,rfl,lrq _⟩);have yo:Hid (∀i,v.ownBlock=some i->i < w.heap.size):=hdq (λi hi=>by obtain⟨cs,h9,_⟩:=h.row;exact(zaf h9 hi).2);have MB:=hdq (aiq h.bk.lt (aiq h.map.lt (aiq hn.lt h.fr.size)));have HK:=hdq hk;have Gs:=hdq Gb;have TY:=hdq Mn;have HX:=hdq hx;rw[<-hm]at hl ⊢;have HM:=hdq hm;clear hk Gb Mn h Js hn hb hx hm;go_enter Tryz.func28,Tryz.ntmps28;go_wp2_with fail;go_loopw [6,11] (λvo i wr=>∃k:Nat,k<=m/\i= .int .i64 k/\∃(v':Value)(acc:List St)(cs:List Value)(si:Ist),Hid (StSt K call xs s n wr v' vo acc cs si k v w b q)) (λ_ i _=>m - (intOf i).toNat);case atStart=>exact⟨0,Nat.zero_le _,rfl,_,_,_,_,Hj⟩
 case round=>
  clear Hj;obtain⟨k,hk,rfl,vk,acc,cs,si,hb⟩:=hrel;by_cases Hr:k < m
  ·obtain⟨a0,a1,a2,a3,a4,a5,a6,ar,hd⟩:=Sts.drop_cons (show k < xs.len from by rw[<-HM.out];exact Hr);obtain⟨gb,go,rfl,Hd⟩:=HX.2.2 (by rw[<-HM.out];omega);have Si:=Hd.drop k;rw[hd]at Si;obtain⟨⟨Hf,_,r0,r1,d0,d1,d6⟩,⟨A2,q2,d2,s2⟩,⟨A3,q3,d3,s3⟩,⟨A4,q4,d4,s4⟩,⟨A5,q5,d5,s5⟩,_⟩:=Si;have Km:=HK.low _ Hf;have c0:=(hb.out.st.fr.cell (p:=⟨gb,go+k*7,none⟩) Km id).trans d0;have c1:=(hb.out.st.fr.cell (p:=⟨gb,go+k*7+1,none⟩) Km id).trans d1;have c2:=(hb.out.st.fr.cell (p:=⟨gb,go+k*7+2,none⟩) Km id).trans d2;have c3:=(hb.out.st.fr.cell (p:=⟨gb,go+k*7+3,none⟩) Km id).trans d3;have c4:=(hb.out.st.fr.cell (p:=⟨gb,go+k*7+4,none⟩) Km id).trans d4;have c5:=(hb.out.st.fr.cell (p:=⟨gb,go+k*7+5,none⟩) Km id).trans d5;have c6:=(hb.out.st.fr.cell (p:=⟨gb,go+k*7+6,none⟩) Km id).trans d6;have Gf:gb < wr.heap.size:=ltq (HK.low _ Hf) hb.out.st.fr.size;have Hl:(k:Int) < (m:Int):=by omega
   have Fb:(0:Int)<=(k:Int):=by omega
   obtain⟨l2,Gl⟩:=nmq a2.len;obtain⟨l3,Gz⟩:=nmq a3.len;obtain⟨l4,Gy⟩:=nmq a4.len;obtain⟨l5,GN⟩:=nmq a5.len;rw[<-Gl]at c2;rw[<-Gz]at c3;rw[<-Gy]at c4;rw[<-GN]at c5;obtain⟨w5,GE⟩:=nmq (wr.alloc (.cells #[.int .u8 a0,.string a1,.slice A2 l2 q2,.slice A3 l3 q3,.slice A4 l4 q4,.slice A5 l5 q5,.int .i64 a6] 39));have Hs:Fr NoT wr w5:=by rw[GE];exact(Fr.refl _ _).alloc _
   have Hm:Bk w5 wr.heap.size 39 #[.int .u8 a0,.string a1,.slice A2 l2 q2,.slice A3 l3 q3,.slice A4 l4 q4,.slice A5 l5 q5,.int .i64 a6]:=by rw[GE];exact Bk.new _ _ _
   have Sj:=hdq (zhm K w5 si vk (hb.out.st.fr0 Hs));obtain⟨Zm,Zn,QF,Zo,MJ⟩:=Gs k a0 a1 a2 a3 a4 a5 a6 ar hd;have HP:=hdq (aiq s2 (aiq s3 (aiq s4 (aiq s5 (aiq Zm (aiq Zn (aiq QF (aiq Zo (aiq MJ (aiq r0 r1))))))))));have HL:=hdq (aiq Gl (aiq Gz (aiq Gy GN)));have HD:=hdq hd;have JD:=hdq GE;have Hx:=hdq Hs;have GO:=hdq Hm;clear Hd Hf s2 s3 s4 s5 d0 d1 d2 d3 d4 d5 d6 Zm Zn QF Zo MJ r0 r1 Gl Gz Gy GN hd GE Hs Hm Km;go_wp2_with fail;rw[<-JD.out];clear c0 c1 c2 c3 c4 c5 c6 Gf;refine Sj.mono ?_;rintro _ w6 ⟨rfl,rfl⟩;cases Ja:zaT si with
   |true=>
    have hr:inlS call xs n s=(Sts.app (zao acc) .nil,si):=by
     rw[<-hb.out.eq,HD.out];unfold inlS;rw[if_pos Ja]
    have HR:=hdq hr;clear hr Ja;go_wp2_with fail;go_ret;exact⟨vk,u6,acc,cs,rfl,by rw[HR.out];exact hb.out.st.fr0 Hx.out,hb.out.out.fr0 Hx.out,by rw[HR.out,zcj],hb.out.fr.trans Hx.any,hb.out.spot,by rw[HR.out];exact hb.out.many,by rw[HR.out];exact hb.out.cm⟩
   |false=>
    have QL:=hdq Ja;clear Ja;have t0:=GO.cell 0;have tl:=GO.lt;simp only[getsL]at t0;by_cases h9:a0=9
    ·
     subst h9;have t1:=GO.cell 1;have t2:=GO.cell 2;have t3:=GO.cell 3;have t4:=GO.cell 4;have t5:=GO.cell 5;have t6:=GO.cell 6;simp only[getsL]at t1 t2 t3 t4 t5 t6;have T6:=TY k a1 a2 a3 a4 a5 a6 ar HD.out w6 si vk n b q A2 q2 (.slice A3 l3 q3) (.slice A4 l4 q4) (.slice A5 l5 q5) (hb.out.st.fr0 Hx.out) hb.out.cm QL.out (hb.out.nms.fr Hx.out id) hb.out.nb HP.1 HP.2.2.2.2.2.2.2.2.2.2;rw[<-HL.1]at T6;have T6:=hdq T6;go_wp2_with fail;refine T6.mono ?_;rintro _ w7 ⟨v7,vo7,EN,cs7,rfl,h7,N3,Qi,Gw,KB,MN,Qj⟩;have JR:=(hb.out.out.fr0 Hx.out).keep Gw KB MB.1;have TL:w.heap.size<=w6.heap.size:=leq9 hb.out.fr.size Hx.size;have Wq:w.heap.size<=w7.heap.size:=leq9 TL Gw.size;have Fx:∀i,u6.ownBlock=some i->i < w6.heap.size:=λi hi=>ltq (zaf hb.out.out.row hi).2 Hx.size;have Zp:∀i,v7.ownBlock=some i->i < w7.heap.size:=λi hi=>by obtain⟨c9,h9,_⟩:=h7.row;exact(zaf h9 hi).2
     have WM:acc.length+EN.length<=1000000:=by have h8:=h7.most.1;have h9:=hb.out.many;omega
     have HO:=hdq (aiq JR (aiq N3 (aiq Fx Zp)));have H7:=hdq (aiq h7 (aiq Qi (aiq Gw (aiq KB (aiq MN Qj)))));clear JR N3 Fx Zp h7 Qi Gw KB MN Qj t0 t1 t2 t3 t4 t5 t6 tl;go_wp2_with (at_builtin;refine zcb rfl _ _ rfl rfl rfl HO.1 HO.2.1 TL HO.2.2.1 Wq WM HO.2.2.2 ?_);intro vo8 w8 Kb Gj Ng;have hT:∀i,u6.ownBlock=some i->w.heap.size<=i:=λi hi=>(zaf HO.1.row hi).1;have GU:∀i,u6.ownBlock=some i->v7.ownBlock≠some i:=λi hi=>HO.1.ne i hi;obtain⟨h7,Qi,Gw,KB,MN,Qj⟩:=H7.out;have MQ:b < w.heap.size:=MB.2.2.1;have F8:=hdq (show StSt K call xs s n w8 v7 vo8 (acc++EN) (cs++cs7) (call a1 a2 n a6 si).2 (k+1) v w b q from
      ⟨h7.frT Gj (λi hi=>by have:=hT i hi;have:=MB.2.2.2;omega) (λe=>by have:=hT _ e;have:=MB.1;omega) (λe=>by have:=hT _ e;have:=MB.2.1;omega) (λi hi e=>GU i e hi),Qj,Kb,
       ((hb.out.nms.fr Hx.out id).fr Gw (λe=>by
        rcases e with e|e
        ·exact hb.out.nb.p e
        ·exact hb.out.nb.v e)).fr Gj (λe=>by have:=hT _ e;omega),
       ⟨hb.out.nb.p,hb.out.nb.m,λe=>by
        rcases KB with k9|⟨g9,k9,FI⟩
        ·exact hb.out.nb.v (k9▸e)
        ·rw[k9]at e;have:=Option.some.inj e;omega⟩,
       Fr.thenT (Fr.thenT (hb.out.fr.trans Hx.any) Gw λi hi e=>by
        rcases e with e|e
        ·exact Or.inl e
        ·rcases hb.out.spot with k9|⟨g9,k9,FI⟩
         ·exact Or.inr (k9▸e)
         ·rw[k9]at e;have:=Option.some.inj e;omega) Gj λi hi e=>by have:=hT i e;omega,
       hb.out.spot.trans KB TL,by
        rw[zbb,zbs,<-hb.out.eq,HD.out,Sts.drop_succ k xs HD.out]
        conv=>rhs;unfold inlS
        rw[if_neg (by rw[QL.out];simp),if_pos rfl,<-Qi],by rw[List.length_append];have:=hb.out.many;omega⟩)
     clear Kb Gj Ng hT GU h7 Qi Gw KB MN Qj MQ;go_wp2_with fail;go_roundw;case rel=>exact⟨k+1,by omega,by go_num,_,_,_,_,F8⟩
     case measure=>simp[intOf];omega
    ·have Ya:¬a0=9:=h9;obtain⟨mn,Q7⟩:=nmq si.many;have g3:=(hb.out.st.fr0 Hx.out).bk.cell 3;have f3:=(hb.out.st.fr0 Hx.out).bk.frozen 3;have lP3:=(hb.out.st.fr0 Hx.out).bk.lt;have t1:=GO.cell 1;simp only[getsL]at g3 t1;rw[<-Q7]at g3;have Sk:mn<=256:=by
      have h2:=QL.out;unfold zaT at h2;simp only[Bool.or_eq_false_iff,decide_eq_false_iff_not]at h2;omega
     have QM:K.P≠wr.heap.size:=λe=>by have:=MB.1;have:=hb.out.fr.size;omega
     obtain⟨w7,M4⟩:=nmq (w6.setCell ⟨K.P,3,none⟩ (.int .i64 ((mn:Int)+1)));have Gw:Fr (λi=>i=K.P) w6 w7:=by rw[M4];exact Fr.own (Fr.refl _ _) _ _
     have h7:InAt K w7 ⟨si.calls,si.vars,si.many+1⟩ vk:=by
      rw[M4,Q7];exact(hb.out.st.fr0 Hx.out).set 3 _ (by simp) rfl ⟨by show si.many+1<=261;omega,by show si.calls<=si.many+1+1;have:=hb.out.cm;omega⟩
     have GK:=GO.fr Gw (λe=>QM e.symm);have Te:=(hb.out.nms.fr Hx.out id).fr Gw (λe=>hb.out.nb.p e);have YN:=hdq (zjI b q n a1 w7 Te HP.2.2.2.2.2.2.1);have t7:=GK.cell 0;have t71:=GK.cell 1;have tf1:=GK.frozen 1;have tl7:=GK.lt;simp only[getsL]at t7 t71;obtain⟨DL,Fi⟩:=nmq (if a0=3 then a1 else ofN n a1);have H7:=hdq h7;have JG:=hdq (Hx.any.trans Gw:Fr (λi=>i=K.P) wr w7);have Pk:=hdq GK;have yC:=hdq Te;have TD:=hdq M4;have kU:=hdq (aiq Q7 Fi);have yD:wr.heap.size≠K.P:=λe=>QM e.symm;clear Q7 Fi h7 Gw GK Te M4 t7 t71 tf1 tl7;by_cases h3:a0=3
     case' pos=>
      have Kj:DL=a1:=by rw[kU.2,if_pos h3]
      go_wp2_with fail;rw[<-TD.out];obtain⟨w8,GG⟩:=nmq w7;rw[<-GG];have H8:=hdq (show InAt K w8 ⟨si.calls,si.vars,si.many+1⟩ vk/\Fr (λi=>i=K.P\/i=wr.heap.size) wr w8/\Bk w8 wr.heap.size 39 #[.int .u8 a0,.string DL,.slice A2 l2 q2,.slice A3 l3 q3,.slice A4 l4 q4,.slice A5 l5 q5,.int .i64 a6]/\NmM w8 b q n from by
       rw[GG,Kj];exact⟨H7.out,JG.mono λ_ _ e=> .inl e,Pk.out,yC.out⟩)
      clear GG Kj h3
     case' neg=>
      have Kj:DL=ofN n a1:=by rw[kU.2,if_neg h3]
      rw[<-Kj]at YN;have YO:¬a0=3:=h3;go_wp2_with fail;rw[<-TD.out];go_at_call 84;refine YN.mono ?_;rintro _ wo ⟨rfl,FO⟩;have ko:=Pk.fr0 FO;have o1:=ko.cell 1;have of1:=ko.frozen 1;have ol:=ko.lt;simp only[getsL]at o1;obtain⟨w8,GG⟩:=nmq (wo.setCell ⟨wr.heap.size,1,none⟩ (.string DL));have Gj:Fr (λi=>i=wr.heap.size) w7 w8:=by rw[GG];exact FO.any.trans (Fr.own (Fr.refl _ _) _ _)
      have H8:=hdq (show InAt K w8 ⟨si.calls,si.vars,si.many+1⟩ vk/\Fr (λi=>i=K.P\/i=wr.heap.size) wr w8/\Bk w8 wr.heap.size 39 #[.int .u8 a0,.string DL,.slice A2 l2 q2,.slice A3 l3 q3,.slice A4 l4 q4,.slice A5 l5 q5,.int .i64 a6]/\NmM w8 b q n from
       ⟨H7.frT Gj (λi e=>by have e:i=wr.heap.size:=e;have:=hb.out.st.fr.size;omega) QM (λe=>by have e:K.bp=wr.heap.size:=e;have:=hb.out.st.map.lt;omega) (λi hi e=>by have e:i=wr.heap.size:=e;obtain⟨c9,h9,_⟩:=hb.out.st.row;have:=(zaf h9 hi).2;omega),
        (JG.mono λ_ _ e=> .inl e).trans (Gj.mono λ_ _ e=> .inr e),by have:=ko.set_ 1 (.string DL);rw[GG];simpa using this,yC.fr Gj (λe=>by have e:b=wr.heap.size:=e;have:=MB.2.2.1;have:=hb.out.fr.size;omega)⟩)
      have K8:=hdq GG;clear GG Kj h3 Gj ko FO;go_wp2_with fail;rw[<-K8.out];clear o1 of1 ol K8 wo YO
     all_goals
      clear g3 f3 lP3 t0 t1 tl Sk;have d2:=H8.2.2.1.cell 2;have d3:=H8.2.2.1.cell 3;have dl:=H8.2.2.1.lt;simp only[getsL]at d2 d3;have Zq:=H8.1.fr;have xV:wr.heap.size < w8.heap.size:=dl;have gV:=hdq (λ(W:World)(hf:Fr NoT w8 W)=>zfd a2 W K.S A2 q2 n b q (H8.2.2.2.fr hf id) (λi hi=>ltq (ltq (HK.low i hi) Zq.size) hf.size) HP.2.2.2.2.2.2.2.1 (HP.1.imp λ_ _ h=>ExR.keep ((Zq.trans hf).same λi hi=>⟨HK.low i hi,id⟩) h));have gW:=hdq (λ(W:World)(hf:Fr NoT w8 W)=>zjP a3 W K.S A3 q3 n b q (H8.2.2.2.fr hf id) (λi hi=>ltq (ltq (HK.low i hi) Zq.size) hf.size) HP.2.2.2.2.2.2.2.2.1 (HP.2.1.imp λ_ _ h=>CdR.keep ((Zq.trans hf).same λi hi=>⟨HK.low i hi,id⟩) h));rw[<-HL.1]at gV;rw[<-HL.2.1]at gW;clear Zq;refine zad (λW'=>wr.heap.size < W'.heap.size/\W'.cell? ⟨wr.heap.size,2,none⟩=some (.slice A2 l2 q2)/\W'.cell? ⟨wr.heap.size,3,none⟩=some (.slice A3 l3 q3)) (λi=>decide (i < 11)) (by kernel_rfl) ⟨dl,d2,d3⟩ (λhHeld=>?_);refine zaa 0 ?_;simp only[putsL];refine zaa 2 ?_;simp only[putsL];refine zaa 5 ?_;simp only[putsL];refine zaa 7 ?_;simp only[putsL];refine zaz 1 hHeld ?_;simp only[putsL];refine zaz 6 hHeld ?_;simp only[putsL];refine zaa 3 ?_;simp only[putsL];refine zaa 8 ?_;simp only[putsL];refine zab 4 rfl (by kernel_rfl) (λKK hK=>?_);go_simp;go_at_call 85;refine(gV _ ((Fr.refl NoT w8).drew)).mono ?_;rintro _ w9 ⟨X2,x2,rfl,Ft,Zr⟩;have Gm:Fr NoT w8 w9:=((Fr.refl NoT w8).drew).trans Zr
      have KJ:wr.heap.size < w9.heap.size/\w9.cell? ⟨wr.heap.size,2,none⟩=some (.slice A2 l2 q2)/\w9.cell? ⟨wr.heap.size,3,none⟩=some (.slice A3 l3 q3):=⟨ltq dl Gm.size,(Gm.cell (p:=⟨wr.heap.size,2,none⟩) dl id).trans d2,(Gm.cell (p:=⟨wr.heap.size,3,none⟩) dl id).trans d3⟩;have FT:=hdq Gm;have Mx:=hdq Ft;clear hHeld Ft Gm Zr;try dsimp only
      refine hK _ _ (λ_ _=>KJ) ?_;clear hK KK;have hHeld:=KJ;clear KJ;try simp only[putsL]
      refine zaa 10 ?_;simp only[putsL];refine zab 9 rfl (by kernel_rfl) (λKK hK=>?_);go_simp;go_at_call 87;refine(gW _ FT.out).mono ?_;rintro _ DI ⟨X3,x3,rfl,Kj,Fo⟩;have EJ:=(H8.2.2.1.fr0 FT.out).fr0 Fo;have y2:=EJ.cell 2;have y3:=EJ.cell 3;have yf2:=EJ.frozen 2;have yf3:=EJ.frozen 3;have yl:=EJ.lt;simp only[getsL]at y2 y3;have J3:=hdq Fo;have Sl:=hdq EJ;have Tr:=hdq Kj;clear Kj Fo EJ hHeld;try dsimp only
      refine hK _ _ (λ_ _=>⟨yl,y2,y3⟩) ?_;clear hK KK;try simp only[putsL]
      refine zab 11 rfl (by kernel_rfl) (λKK hK=>?_);go_simp;refine hK _ _ (λh=>absurd h (by decide)) ?_;clear hK KK;try simp only[putsL]
      refine zab 12 rfl (by kernel_rfl) (λKK hK=>?_);go_simp;refine hK _ _ (λh=>absurd h (by decide)) ?_;clear hK KK;try simp only[putsL]
      refine zab 13 rfl (by kernel_rfl) (λKK hK=>?_);go_simp;refine hK _ _ (λh=>absurd h (by decide)) ?_;clear hK KK;try simp only[putsL]
      refine zai (by kernel_rfl) ?_;obtain⟨DO,Nh⟩:=nmq ((DI.setCell ⟨wr.heap.size,2,none⟩ (.slice X2 l2 x2)).setCell ⟨wr.heap.size,3,none⟩ (.slice X3 l3 x3));rw[<-Nh];have FC:Fr (λi=>i=wr.heap.size) DI DO:=by rw[Nh];exact Fr.own (Fr.own (Fr.refl _ _) _ _) _ _
      have Sm:Bk DO wr.heap.size 39 #[.int .u8 a0,.string DL,.slice X2 l2 x2,.slice X3 l3 x3,.slice A4 l4 q4,.slice A5 l5 q5,.int .i64 a6]:=by
       have:=(Sl.set_ 2 (.slice X2 l2 x2)).set_ 3 (.slice X3 l3 x3);rw[Nh];simpa using this
      have NX:=hdq FC;have QN:=hdq Sm;clear Nh FC Sm y2 y3 yf2 yf3 yl d2 d3 dl;have gX:wr.heap.size < DO.heap.size:=QN.lt;have kV:∀i,vk.ownBlock=some i->¬i=wr.heap.size:=λi hi e=>by obtain⟨c9,h9,_⟩:=hb.out.st.row;have:=(zaf h9 hi).2;omega
      have kW:¬K.bp=wr.heap.size:=λe=>by have:=MB.2.1;have:=hb.out.fr.size;omega
      have xW:¬b=wr.heap.size:=λe=>by have:=MB.2.2.1;have:=hb.out.fr.size;omega
      obtain⟨s1,Fs⟩:=nmq ((⟨si.calls,si.vars,si.many+1⟩:Ist));have Vz:InAt K DO s1 vk:=by
       rw[Fs];exact((H8.1.fr0 FT.out).fr0 J3.out).frT NX.out (λi e=>by have e:i=wr.heap.size:=e;have:=hb.out.fr.size;have:=MB.2.2.2;omega) QM kW kV
      have WN:NmM DO b q n:=((H8.2.2.2.fr FT.out id).fr J3.out id).fr NX.out xW;have Ks:=hdq (λ(W:World)(hf:Fr NoT DO W)=>HP.2.2.2.2.1 W s1 vk n b q A4 q4 (Vz.fr0 hf) (by rw[Fs];show si.calls<=si.many+1;have:=hb.out.cm;omega) (WN.fr hf id) hb.out.nb HP.2.2.1);rw[<-HL.2.2.1]at Ks;have e4:=QN.cell 4;have e5:=QN.cell 5;simp only[getsL]at e4 e5;have Ny:=hdq Fs;have kX:=hdq WN;clear Fs WN Vz;go_wp2_with fail;refine zad (λW'=>wr.heap.size < W'.heap.size/\W'.cell? ⟨wr.heap.size,4,none⟩=some (.slice A4 l4 q4)/\W'.cell? ⟨wr.heap.size,5,none⟩=some (.slice A5 l5 q5)) (λi=>decide (i < 11)) (by kernel_rfl) ⟨gX,e4,e5⟩ (λhHeld=>?_);refine zaa 0 ?_;simp only[putsL];refine zaa 1 ?_;simp only[putsL];refine zaa 3 ?_;simp only[putsL];refine zaa 5 ?_;simp only[putsL];refine zaa 6 ?_;simp only[putsL];refine zaa 8 ?_;simp only[putsL];refine zaz 2 hHeld ?_;simp only[putsL];refine zaz 7 hHeld ?_;simp only[putsL];refine zab 4 rfl (by kernel_rfl) (λKK hK=>?_);go_simp;go_at_call 28;refine(Ks _ ((Fr.refl NoT DO).drew)).mono ?_;rintro _ DN ⟨v12,vo12,DG,cs12,rfl,RJ,Sn,Nc,U5,Jb,LD,QO⟩;obtain⟨B4,c4',rfl,QI⟩:=Sn.slice (by have:=RJ.most.1;omega);have FV:Fr (InT K vk) DO DN:=((Fr.refl _ DO).drew).trans U5;have U6:¬InT K vk wr.heap.size:=λe=>by
       rcases e with e|e
       ·exact QM e.symm
       ·exact kV _ e rfl
      have MK:wr.heap.size < DN.heap.size/\DN.cell? ⟨wr.heap.size,4,none⟩=some (.slice A4 l4 q4)/\DN.cell? ⟨wr.heap.size,5,none⟩=some (.slice A5 l5 q5):=⟨ltq gX FV.size,(FV.cell (p:=⟨wr.heap.size,4,none⟩) gX U6).trans e4,(FV.cell (p:=⟨wr.heap.size,5,none⟩) gX U6).trans e5⟩;have MV:=hdq (aiq RJ (aiq Nc (aiq FV (aiq Jb (aiq LD (aiq QO QI))))));have Na:=hdq (QN.fr FV U6);clear RJ Sn Nc FV U5 Jb LD QO QI hHeld;try dsimp only
      refine hK _ _ (λ_ _=>MK) ?_;clear hK KK MK;try simp only[putsL]
      refine zaa 10 ?_;simp only[putsL];refine zab 9 rfl (by kernel_rfl) (λKK hK=>?_);go_simp;go_at_call 28;have U7:v12.ownBlock≠some b:=λe=>by
       rcases MV.2.2.2.1 with k9|⟨g9,k9,FI⟩
       ·exact hb.out.nb.v (k9▸e)
       ·rw[k9]at e;have:=Option.some.inj e;have:DO.heap.size<=g9:=FI;have:=MB.2.2.1;have:=hb.out.fr.size;omega
      have UO:=HP.2.2.2.2.2.1 DN (inlS call a4 n s1).2 v12 n b q A5 q5 MV.1 MV.2.2.2.2.2.1 (kX.fr MV.2.2.1 (λe=>by
       rcases e with e|e
       ·exact hb.out.nb.p e
       ·exact hb.out.nb.v e)) ⟨hb.out.nb.p,hb.out.nb.m,U7⟩ HP.2.2.2.1
      rw[<-HL.2.2.2]at UO;refine UO.mono ?_;clear UO;rintro _ DQ ⟨DV,vo13,DH,cs13,rfl,QJ,Mc,Nd,Jx,Jv,PW,Nf⟩;obtain⟨B5,c5',rfl,QK⟩:=Mc.slice (by have:=QJ.most.1;omega);have kY:¬InT K v12 wr.heap.size:=λe=>by
       rcases e with e|e
       ·exact QM e.symm
       ·rcases MV.2.2.2.1 with k9|⟨g9,k9,FI⟩
        ·exact kV _ (k9▸e) rfl
        ·rw[k9]at e;have:=Option.some.inj e;have:DO.heap.size<=g9:=FI;omega
      have k13:=Na.fr Jx kY;have y4:=k13.cell 4;have y5:=k13.cell 5;have yf4:=k13.frozen 4;have yf5:=k13.frozen 5;have yl:=k13.lt;simp only[getsL]at y4 y5;have WO:=hdq k13;have Pq:=hdq (aiq QJ (aiq Nd (aiq Jx (aiq Jv (aiq PW (aiq Nf QK))))));clear QJ Mc Nd Jx Jv PW Nf QK k13 U7;try dsimp only
      refine hK _ _ (λ_ _=>⟨yl,y4,y5⟩) ?_;clear hK KK;try simp only[putsL]
      refine zab 11 rfl (by kernel_rfl) (λKK hK=>?_);go_simp;refine hK _ _ (λh=>absurd h (by decide)) ?_;clear hK KK;try simp only[putsL]
      refine zab 12 rfl (by kernel_rfl) (λKK hK=>?_);go_simp;refine hK _ _ (λh=>absurd h (by decide)) ?_;clear hK KK;try simp only[putsL]
      refine zab 13 rfl (by kernel_rfl) (λKK hK=>?_);go_simp;refine hK _ _ (λh=>absurd h (by decide)) ?_;clear hK KK;try simp only[putsL]
      refine zai (by kernel_rfl) ?_;obtain⟨DY,T7⟩:=nmq ((DQ.setCell ⟨wr.heap.size,4,none⟩ (.slice B4 DG.length c4')).setCell ⟨wr.heap.size,5,none⟩ (.slice B5 DH.length c5'));rw[<-T7];have FW:Fr (λi=>i=wr.heap.size) DQ DY:=by rw[T7];exact Fr.own (Fr.own (Fr.refl _ _) _ _) _ _
      have JL:Bk DY wr.heap.size 39 #[.int .u8 a0,.string DL,.slice X2 l2 x2,.slice X3 l3 x3,.slice B4 DG.length c4',.slice B5 DH.length c5',.int .i64 a6]:=by
       have:=(WO.set_ 4 (.slice B4 DG.length c4')).set_ 5 (.slice B5 DH.length c5');rw[T7];simpa using this
      have j0:=JL.cell 0;have j1:=JL.cell 1;have j2:=JL.cell 2;have j3:=JL.cell 3;have j4:=JL.cell 4;have j5:=JL.cell 5;have j6:=JL.cell 6;have jl:=JL.lt;simp only[getsL]at j0 j1 j2 j3 j4 j5 j6;obtain⟨DR,Ni⟩:=nmq (DY.alloc (.cells #[.int .u8 a0,.string DL,.slice X2 l2 x2,.slice X3 l3 x3,.slice B4 DG.length c4',.slice B5 DH.length c5',.int .i64 a6] 39));have Fq:Fr NoT DY DR:=by rw[Ni];exact(Fr.refl _ _).alloc _
      have Nj:Bk DR DY.heap.size 39 ([.int .u8 a0,.string DL,.slice X2 l2 x2,.slice X3 l3 x3,.slice B4 DG.length c4',.slice B5 DH.length c5',.int .i64 a6]:List Value).toArray :=by rw[Ni];exact Bk.new _ _ _
      obtain⟨i0,RZ,Fe,Lh,R0⟩:=info_parts zej;have HI:=hdq (aiq RZ (aiq Fe (aiq Lh R0)));have G8:∀i,u6.ownBlock=some i->¬InT K vk i/\¬InT K v12 i/\¬i=wr.heap.size:=λi hi=>by
       have h1:=zaf hb.out.out.row hi;have hh:¬InT K vk i:=λe=>by
        rcases e with e|e
        ·have:=MB.1;omega
        ·exact hb.out.out.ne i hi e
       refine⟨hh,λe=>?_,by omega⟩;rcases e with e|e
       ·have:=MB.1;omega
       ·rcases MV.2.2.2.1 with k9|⟨g9,k9,FI⟩
        ·exact hh (.inr (k9▸e))
        ·rw[k9]at e;have:=Option.some.inj e;have:DO.heap.size<=g9:=FI;omega
      have Mo:=zag (zag (zag (zag (zag (zag (zag (zag hb.out.out.row H8.2.1 λi hi e=>(by
       rcases e with e|e
       ·exact(G8 i hi).1 (.inl e)
       ·exact(G8 i hi).2.2 e)) FT.out λ_ _=>id) J3.out λ_ _=>id) NX.out λi hi=>(G8 i hi).2.2) MV.2.2.1 λi hi=>(G8 i hi).1) Pq.2.2.1 λi hi=>(G8 i hi).2.1) FW λi hi=>(G8 i hi).2.2) Fq λ_ _=>id
      have WP:w.heap.size<=DR.heap.size:=by have h1:=hb.out.fr.size;have h2:=jl;have h3:=Fq.size;omega
      have Jt:acc.length<=261:=by have:=hb.out.many;have:=hb.out.st.most.1;omega
      have PZ:=hdq Mo;have MG:=hdq Nj;have WQ:=hdq FW;have T8:=hdq Fq;have WR:=hdq Ni;clear Mo Nj FW Fq Ni JL T7 G8 y4 y5 yf4 yf5 yl RZ Fe Lh R0 e4 e5;go_wp2_with (at_builtin;rw[<-WR.out];refine zat _ rfl _ _ 25 rfl w.heap.size 39 i0 (.agg zdx) 7 128 Tryz.underlying25 HI.1 HI.2.1 HI.2.2.1 HI.2.2.2 rfl (by decide) u6 acc.length cs rfl PZ.out ⟨DY.heap.size,0,none⟩ 1 1 _ rfl rfl MG.newsL ?c2 ?c63 ?cby WP ?_);case c2=>
       intro u hu;simp only[List.mem_cons,List.not_mem_nil,or_false]at hu;rcases hu with rfl|rfl|rfl|rfl|rfl|rfl|rfl<;>rfl
      case c63=>unfold maxLen;omega
      case cby=>omega
      intro vo16 Ee KC So N4;rw[HL.1,HL.2.1]at KC;have QP:=Mx.out;have QQ:=Tr.out;rw[HL.1]at QP;rw[HL.2.1]at QQ;have F8:=hdq (StSt.next hb.out MB.out HD.out QL.out h9 kU.2 HP.2.2.2.2.2.2.2.2.2.1 HP.2.2.2.2.2.2.2.2.2.2 H8.2.1 xV FT.out J3.out NX.out QP QQ Ny.out rfl rfl MV.2.1 Pq.2.1 MV.2.2.1 MV.2.2.2.1 MV.2.2.2.2.2.2 MV.2.2.2.2.1 Pq.1 Pq.2.2.1 Pq.2.2.2.1 Pq.2.2.2.2.2.2 Pq.2.2.2.2.1 Pq.2.2.2.2.2.1 WQ.out T8.out KC So N4);clear KC So N4 QP QQ hb j0 j1 j2 j3 j4 j5 j6 jl;go_wp2_with fail;go_roundw;case rel=>exact⟨k+1,by omega,by go_num,_,_,_,_,F8⟩
      case measure=>simp[intOf];omega
  ·have Hl:¬(k:Int) < (m:Int):=by omega
   have hr:inlS call xs n s=(zao acc,si):=by
    rw[<-hb.out.eq,Sts.drop_nil (by rw[<-HM.out];omega)];simp only[inlS,zcj]
   have HR:=hdq hr;clear hr;go_wp2_with fail;go_ret;exact⟨vk,u6,acc,cs,rfl,by rw[HR.out];exact hb.out.st,hb.out.out,by rw[HR.out],hb.out.fr,hb.out.spot,by rw[HR.out];exact hb.out.many,by rw[HR.out];exact hb.out.cm⟩
theorem zkc {procs:List UInt8->Option Prc}{low:Sts->Prop}:∀(i:Nat) {xs:Sts} {a0:Int} {a1:ByteArray} {a2:Exs} {a3:Cds} {a4 a5:Sts} {a6:Int} {ar:Sts},LvB procs low xs->szS xs->Sts.drop i xs= .cons a0 a1 a2 a3 a4 a5 a6 ar->
  (a0=9->∃x,procs a1.data.toList=some x/\x.params.length=a2.len/\low x.body)/\a1.size<=9223372036854775807/\szX a2/\szC a3
 |0,.cons _ _ _ _ _ _ _ _,_,_,_,_,_,_,_,_,h,hz,hd=>by
  simp only[Sts.drop]at hd;cases hd;exact⟨h.1,hz.1,hz.2.1,hz.2.2.1⟩
 |0,.nil,_,_,_,_,_,_,_,_,_,_,hd=>by simp[Sts.drop]at hd
 |i+1,.nil,_,_,_,_,_,_,_,_,_,_,hd=>by simp[Sts.drop]at hd
 |i+1,.cons _ _ _ _ _ _ _ _,_,_,_,_,_,_,_,_,h,hz,hd=>by
  simp only[Sts.drop]at hd;exact zkc i h.2.2.2 hz.2.2.2.2.2 hd
theorem zfp {K:InK}(hk:K.Ok){call:ByteArray->Exs->Nms->Int->Ist->Sts×Ist}{low:Sts->Prop}(Mn:∀xs,LvB K.procs low xs->szS xs->CaPC K call xs):∀(xs:Sts),LvB K.procs low xs->szS xs->StI K call xs
 | .nil,_,_,i,_,_,_,_,_,_,_,_,h=>by cases i<;>simp[Sts.drop]at h
 | .cons k nm args cond body els at_ r,hl,hz,0,a0,a1,a2,a3,a4,a5,a6,ar,h=>by
  simp only[Sts.drop,Sts.cons.injEq]at h;obtain⟨_,rfl,rfl,rfl,rfl,rfl,_,_⟩:=h;exact⟨zfo K hk call _ (zfp hk Mn _ hl.2.1 hz.2.2.2.1) (Mn _ hl.2.1 hz.2.2.2.1),zfo K hk call _ (zfp hk Mn _ hl.2.2.1 hz.2.2.2.2.1) (Mn _ hl.2.2.1 hz.2.2.2.2.1),hz.1,hz.2.1,hz.2.2.1⟩
 | .cons k nm args cond body els at_ r,hl,hz,i+1,a0,a1,a2,a3,a4,a5,a6,ar,h=>by
  simp only[Sts.drop]at h;exact zfp hk Mn r hl.2.2.2 hz.2.2.2.2.2 i a0 a1 a2 a3 a4 a5 a6 ar h
theorem zmn {K:InK}(hk:K.Ok){call:ByteArray->Exs->Nms->Int->Ist->Sts×Ist}{low:Sts->Prop}(Mn:∀xs,LvB K.procs low xs->szS xs->CaPC K call xs)(xs:Sts)(hl:LvB K.procs low xs)(hz:szS xs):StC K (inlS call) xs:=
 zfo K hk call xs (zfp hk Mn xs hl hz) (Mn xs hl hz)
theorem zkd {K:InK}(hk:K.Ok):∀(f:Nat)(xs:Sts),Lv K.procs f xs->szS xs->StC K (inlF K.procs f) xs
 |0,xs,hl,hz=>zmn hk (low:=λ_=>False) (λys hl hz i a1 a2 a3 a4 a5 a6 ar hd=>by
  obtain⟨x,_,_,h⟩:=(zkc i hl hz hd).1 rfl;exact h.elim) xs hl hz
 |f+1,xs,hl,hz=>zmn hk (low:=Lv K.procs f) (λys hl hz i a1 a2 a3 a4 a5 a6 ar hd w s v n b q A2 c2 V3 V4 V5 h Js Jm hn hb ha Hd=>by
  obtain⟨h1,h2,h3,h4⟩:=zkc i hl hz hd;obtain⟨x,hx,hp,Fx⟩:=h1 rfl;exact zkb K hk (inlF K.procs f) x (zkd hk f x.body Fx (hk.few _ _ hx).2.2.2.1) w s v n b q 9 a1 a2 A2 c2 V3 V4 V5 a6 h Js Jm hn hb hx hp h2 h3 ha Hd) xs hl hz
theorem zam {P:Program}{fn:Func}{p q:Tmp}{ty:TypeId}(h:fn.results= #[.cell p ty,.tmp q])(tmps:Array Value)(w:World)(g:Nat)(t:TypeId)(cs:Array Value)(fr:Nat×Nat)(d:TypeDesc)
  (hp:tmps.getD p undef= .pointer (some ⟨g,0,none⟩)) (hg:w.heap[g]?=some (.cells cs t fr))
  (hu:P.underlying ty=some d) (hd:(match d with| .struct _| .array _ _=>true|_=>false)=true) (hi:(P.info? ty).map (·.size)=some cs.size):
  (results fn tmps).run P w= .ok (.tuple #[.agg cs,tmps.getD q undef]) w:=by
 have jN:tmps[p]?.getD undef= .pointer (some ⟨g,0,none⟩):=by simpa using hp
 simp[results,h,jN,asAddr,run_loadVar_row w g t ty cs fr d hg hu hd hi]
theorem zhu (w:World)(c0 c1:Array Value)(t0 t1:TypeId):Bk ((w.alloc (.cells c0 t0)).alloc (.cells c1 t1)) w.heap.size t0 c0/\Bk ((w.alloc (.cells c0 t0)).alloc (.cells c1 t1)) (w.heap.size+1) t1 c1:=
 ⟨(Bk.new _ _ _).alloc _,Bk.new_at _ _ _ (by simp)⟩
theorem zeI:(Tryz.prog.info? 27).map (·.size)=some 4:=by kernel_rfl
theorem zke {w:World}{S:Nat->Prop}{Z:Prop}:∀ {xs:List Prc} {b o:Nat},PrR w S Z xs b o->∀x∈xs,in64 x.at_/\∀v∈x.params,in64 v.at_
 | [],_,_,_,_,h=>by simp at h
 |p::r,b,o,⟨⟨_,_,h1,_⟩,⟨A,c,_,hs⟩,_,hr⟩,x,hx=>by
  rcases List.mem_cons.1 hx with rfl|hx
  ·refine⟨h1,λv hv=>?_⟩;have hp:0 < x.params.length:=List.length_pos_iff.2 λe=>by rw[e]at hv;simp at hv
   obtain⟨b',o',_,kZ⟩:=hs.2.2 hp;have:∀ {l:List Va} {b o:Nat},VaR w S Z l b o->v∈l->in64 v.at_:=by
    intro l
    induction l with
    |nil=>intro b o _ h;simp at h
    |cons u r ih=>
     intro b o h hm;rcases List.mem_cons.1 hm with rfl|hm
     ·exact h.1.2.2.1
     ·exact ih h.2 hm
   exact this kZ hv
  ·exact zke hr x hx
def InlP (r:Tre×Int)(W:World)(e:Ending)(w':World):Prop:=∃Av Aa Ap Am cv ca cp cm,e= .returned (.tuple #[trV r.1 Av Aa Ap Am cv ca cp cm,.int .i64 r.2])/\TrR w' (New W.heap.size w') True r.1 Av Aa Ap Am cv ca cp cm/\Fr NoT W w'
theorem zdi (w:World)(S:Nat->Prop){Z:Prop}:TrR w S Z zgC none none none none 0 0 0 0:=⟨slr0,slr0,slr0,slr0⟩
theorem zb3:∀(l:List Prc)(x:Prc)(y:List UInt8),zaj (l++ [x]) y=if y=x.nm.data.toList then some x else zaj l y
 | [],x,y=>by simp[zaj]
 |p::r,x,y=>by
  simp only[List.cons_append,zaj,zb3 r x y];by_cases e:y=x.nm.data.toList
  ·simp[e]
  ·simp[e]
def PrM (W0:World)(S:Nat->Prop)(procs:List UInt8->Option Prc)(f:List UInt8->Option Value):Prop:=
 (∀y,procs y=none->f y=none)/\∀y x,procs y=some x->∃A c B e,f y=some (prcV x A c B e)/\SlR (VaR W0 S False x.params) x.params.length 24 A c/\SlR (StR W0 S False x.body) x.body.len 128 B e
theorem PrM.put {W0:World}{S:Nat->Prop}{l:List Prc}{f:List UInt8->Option Value}(h:PrM W0 S (zaj l) f){x:Prc}{A:Option Addr}{c:Nat}{B:Option Addr}{e:Nat}(h1:SlR (VaR W0 S False x.params) x.params.length 24 A c)(h2:SlR (StR W0 S False x.body) x.body.len 128 B e):
  PrM W0 S (zaj (l++ [x])) (λy=>if y=x.nm.data.toList then some (prcV x A c B e)else f y):=by
 refine⟨λy hy=>?_,λy z hy=>?_⟩
 ·rw[zb3]at hy;by_cases e9:y=x.nm.data.toList
  ·rw[if_pos e9]at hy;cases hy
  ·rw[if_neg e9]at hy;simp only[if_neg e9];exact h.1 y hy
 ·rw[zb3]at hy;by_cases e9:y=x.nm.data.toList
  ·rw[if_pos e9]at hy;have hy:=Option.some.inj hy;subst hy;exact⟨A,c,B,e,by simp only[if_pos e9],h1,h2⟩
  ·rw[if_neg e9]at hy;simp only[if_neg e9];exact h.2 y z hy
theorem zgf {t:Tre}(h:OkT t)(hz:SzT t)(hx:∀x∈t.procs,in64 x.at_/\∀v∈x.params,in64 v.at_){y:List UInt8}{x:Prc}(e:zaj t.procs y=some x):x.params.length<=4/\x.nm.size<=16/\(∀v∈x.params,v.nm.size<=16/\in64 v.at_)/\szS x.body/\in64 x.at_:=by
 obtain⟨hm,_⟩:=zbd e;have hs:∀ {b:ByteArray},zak b.data.toList=true->b.size<=16:=λ{b} h=>by
  unfold zak at h;simp only[Bool.and_eq_true,beq_iff_eq,decide_eq_true_eq]at h;have:=h.1.1.1.1;have:=h.1.1.2;have e:b.size=b.data.toList.length:=by rw[Array.length_toList];rfl
  omega
 have ht:=h.tree;unfold okTr okPs zbm okVs zbL at ht;simp only[Bool.and_eq_true,List.all_eq_true]at ht;have h1:=ht.2 x hm;have h4:∀ {l:List Prc} {kn:Kn},zgA l kn->x∈l->x.params.length<=4:=by
  intro l
  induction l with
  |nil=>intro kn _ h;simp at h
  |cons p r ih=>
   intro kn ⟨⟨h1,_,_⟩,h2⟩ h;rcases List.mem_cons.1 h with rfl|h
   ·exact h1
   ·exact ih h2 h
 exact⟨h4 h.each hm,hs h1.1.1,λv hv=>⟨hs (h1.1.2 v hv),(hx x hm).2 v hv⟩,(hz.procs x hm).2.2,(hx x hm).1⟩
theorem RowR.anyV {w w':World}{S S':Nat->Prop}:∀ {xs:List Va} {cs:List Value},RowR oneV w S xs cs->RowR oneV w' S' xs cs
 | [],_,h=>h
 |x::r,cs,⟨ys,DW,e,h1,h2⟩=>⟨ys,DW,e,h1,RowR.anyV h2⟩
theorem RowR.anyA {w w':World}{S S':Nat->Prop}:∀ {xs:List Arr} {cs:List Value},RowR oneA w S xs cs->RowR oneA w' S' xs cs
 | [],_,h=>h
 |x::r,cs,⟨ys,DW,e,h1,h2⟩=>⟨ys,DW,e,h1,RowR.anyA h2⟩
theorem znC (t:Tre)(w:World)(S:Nat->Prop)(Z:Prop)(Av Aa Ap Am:Option Addr)(cv ca cp cm:Nat)(Kr:Lib.TabIs Tryz.prog w "internal/strconv.uint64pow10" .u64 Lib.pow10Tab)(hS:∀b,S b->b < w.heap.size)(Ht:SzT t)(hx:TrR w S Z t Av Aa Ap Am cv ca cp cm)(Sp:∀w1,Fr NoT w w1->Calls Tryz.prog 26 #[trV t Av Aa Ap Am cv ca cp cm] w1 (AtE (zbE t) w1))(G9:(zbE t).2 =0->t.vars.length<=12/\(∀y x,zaj t.procs y=some x->x.params.length<=4/\x.nm.size<=16/\(∀v∈x.params,v.nm.size<=16/\in64 v.at_)/\szS x.body/\in64 x.at_)/\∀K:InK,K.Ok->K.procs=zaj t.procs->StC K (inlF K.procs t.procs.length) t.main):
  Calls Tryz.prog 8 #[trV t Av Aa Ap Am cv ca cp cm] w (InlP (inlT t) w):=by
 obtain⟨n1,Gk⟩:=nmq t.vars.length;obtain⟨n2,Gu⟩:=nmq t.arrays.length;obtain⟨n3,GJ⟩:=nmq t.procs.length;obtain⟨n4,GV⟩:=nmq t.main.len;have Gz:=leq9 hx.procs.1 hx.procs.2.1.1;obtain⟨F,hF⟩:=nmq (zbE t);obtain⟨w1,Hc⟩:=nmq ((w.alloc (.cells #[.slice Av n1 cv,.slice Aa n2 ca,.slice Ap n3 cp,.slice Am n4 cm] 27)).alloc (.cells #[.slice none 0 0,.slice none 0 0,.slice none 0 0,.slice none 0 0] 27));have Hi:Fr NoT w w1:=by rw[Hc];exact((Fr.refl _ _).alloc _).alloc _
 have kk:=zhu w #[.slice Av n1 cv,.slice Aa n2 ca,.slice Ap n3 cp,.slice Am n4 cm] #[.slice none 0 0,.slice none 0 0,.slice none 0 0,.slice none 0 0] 27 27;rw[<-Hc]at kk;replace Sp:=Sp w1 Hi;unfold trV at Sp ⊢;rw[<-Gk,<-Gu,<-GJ,<-GV,<-hF]at Sp;rw[<-Gk,<-Gu,<-GJ,<-GV];rw[<-GJ]at Gz;have qa:=hdq Sp;have qb:=hdq G9;have HN:=hdq (aiq Gk (aiq Gu (aiq GJ GV)));have HX:=hdq (aiq hS (aiq Ht (aiq hx Kr)));have Ga:=hdq Hc;have Hn:=hdq Hi;have Nq:=hdq kk.1;have Gv:=hdq kk.2;have PD:=hdq hF;have Rc:=hdq (show w1.heap.size=w.heap.size+2 from by rw[Hc];simp);clear Sp G9 Gk Gu GJ GV hS Ht hx Kr Hc Hi kk hF;obtain⟨F1,F2⟩:=F;go_enter Tryz.func8,Tryz.ntmps8;go_wp2_with fail;rw[<-Ga.out];go_at_call 26;refine qa.mono ?_;rintro _ w2 ⟨rfl,Gd⟩;have Hy:=hdq Gd;have Mp:=hdq (Hn.trans Gd);have JP:=Nq.fr0 Gd;have Hp:=Gv.fr0 Gd;have T9:=hdq JP;have Na:=hdq Hp;clear Gd;by_cases h0:F2=0
 ·subst h0;have hk:=JP.cell 0;have Xx:=JP.lt;simp only[getsL]at hk;have PL:=hdq (qb (by rw[<-PD.out]));have Pj:= @run_makeMap Tryz.prog;obtain⟨w3,F3⟩:=nmq (w2.alloc (.map #[] 0));have GQ:Fr NoT w2 w3:=by rw[F3];exact(Fr.refl _ _).alloc _
  have JF:MpV w3 w2.heap.size 0 λ_=>none:=by rw[F3];exact MpV.made w2
  have WS:Fr NoT w w3:=Mp.trans GQ;obtain⟨csv,Ki,J9,N5,N6,Sq⟩:=slV HX.2.2.1.vars;have Zs:=zia Av n1 cv csv w3 (by rw[HN.1];exact leq9 HX.2.2.1.vars.1 HX.2.2.1.vars.2.1.1) (by rw[HN.1];exact HX.2.2.1.vars.2.1.2) (by rw[HN.1];exact Ki) N5 (λe=>by rw[HN.1];exact N6 e) (λad e j u hj=>by
   have h1:=Sq ad e j u hj;exact(WS.cell (zbu h1) id).trans h1)
  have qc:=hdq Zs;have Rf:=hdq F3;have Gc:=hdq GQ;have K2:=hdq JF;have KS:=hdq J9;have qd:=hdq WS;clear Zs F3 GQ JF Ki J9 N5 N6 Sq WS;go_wp2_with fail;rw[<-Rf.out];go_at_call 27;refine qc.mono ?_;rintro _ w4 ⟨v,rfl,MU,GB,Av',cv',rfl⟩;obtain⟨w5,GE⟩:=nmq (w4.alloc (.cells #[.map (some w2.heap.size),.int .i64 0,.slice Av' n1 cv',.int .i64 0] 76));have Hs:Fr NoT w4 w5:=by rw[GE];exact(Fr.refl _ _).alloc _
  have Hm:Bk w5 w4.heap.size 76 #[.map (some w2.heap.size),.int .i64 0,.slice Av' n1 cv',.int .i64 0]:=by rw[GE];exact Bk.new _ _ _
  have Sr:Fr NoT w3 w5:=GB.trans Hs;have U8:=zag MU Hs λ_ _=>id;have Zt:=(T9.fr0 Gc.out).fr0 Sr;have Nj:=(Na.fr0 Gc.out).fr0 Sr;have WT:=(T9.fr0 Gc.out).fr0 GB;have x2:=WT.cell 2;have x2l:=WT.lt;simp only[getsL]at x2;have Zu:=GB.size;have Zv:w3.heap.size=w2.heap.size+1:=by rw[Rf.out];simp
  have WU:w.heap.size+2<=w2.heap.size:=by have:=Rc.out;have:=Hy.size;omega
  have Pl:∀i,(Value.slice Av' n1 cv').ownBlock =some i->w3.heap.size<=i/\i < w4.heap.size:=λi hi=>zaf MU hi;have P0:=hdq Pl;have HB:=hdq (aiq Hm (aiq Zt (aiq Nj (aiq U8 (aiq Zu (aiq Zv WU))))));have Hj:=hdq (show MpV w5 w2.heap.size 0 (λ_=>none)/\PrM w S (zaj (t.procs.take 0)) (λ_=>none)/\Fr NoT w5 w5 from⟨K2.fr Sr id,⟨λ_ _=>rfl,λy x h=>by simp[zaj]at h⟩,Fr.refl _ _⟩);have Zw:=hdq (qd.trans Sr);have JD:=hdq GE;clear Pl MU GB GE Hs Hm Sr U8 Zt Nj Zu Zv WU hk Xx JP Hp;go_wp2_with fail;rw[<-JD.out];clear x2 x2l WT;go_loopw [28] (λi wr=>∃k:Nat,k<=n3/\i= .int .i64 k/\∃f:List UInt8->Option Value,Hid (MpV wr w2.heap.size k f/\PrM w S (zaj (t.procs.take k)) f/\Fr (λi=>i=w2.heap.size) w5 wr)) (λi _=>n3 - (intOf i).toNat);case atStart=>exact⟨0,Nat.zero_le _,rfl,_,hdq ⟨Hj.1,Hj.2.1,Fr.refl _ _⟩⟩
  case round=>
   clear Hj;obtain⟨k,hk,rfl,f,hb⟩:=hrel;by_cases Hr:k < n3
   ·
    obtain⟨px,pr,hd,JT⟩:=zac (show k < t.procs.length from by rw[<-HN.2.2.1];exact Hr);obtain⟨gb,go,rfl,Hd⟩:=HX.2.2.1.procs.2.2 (by rw[<-HN.2.2.1];omega);have Hb:=Hd.drop k;rw[hd]at Hb;obtain⟨⟨Hf,_,r1,d0,d3⟩,⟨A1,q1,d1,s1⟩,⟨A2,q2,d2,s2⟩,_⟩:=Hb;have Lz:w.heap.size<=w2.heap.size:=Mp.size;have G8:Fr NoT w wr:=Fr.back1 Zw.out (hb.out.2.2.mono λi _ e=>(by have e:i=w2.heap.size:=e;show w.heap.size<=i;omega)) (lrq _);have Km:=HX.1 _ Hf;have c0:=(G8.cell (p:=⟨gb,go+k*4,none⟩) Km id).trans d0;have c1:=(G8.cell (p:=⟨gb,go+k*4+1,none⟩) Km id).trans d1;have c2:=(G8.cell (p:=⟨gb,go+k*4+2,none⟩) Km id).trans d2;have c3:=(G8.cell (p:=⟨gb,go+k*4+3,none⟩) Km id).trans d3;have Gf:gb < wr.heap.size:=ltq Km G8.size;have Hl:(k:Int) < (n3:Int):=by omega
    have Fb:(0:Int)<=(k:Int):=by omega
    obtain⟨l1,Hv⟩:=nmq px.params.length;obtain⟨l2,Gl⟩:=nmq px.body.len;rw[<-Hv]at c1;rw[<-Gl]at c2;obtain⟨w6,GM⟩:=nmq (wr.alloc (.cells #[.string px.nm,.slice A1 l1 q1,.slice A2 l2 q2,.int .i64 px.at_] 68));have Fk:Fr NoT wr w6:=by rw[GM];exact(Fr.refl _ _).alloc _
    have Fy:Bk w6 wr.heap.size 68 #[.string px.nm,.slice A1 l1 q1,.slice A2 l2 q2,.int .i64 px.at_]:=by rw[GM];exact Bk.new _ _ _
    have L4:=(HB.1.fr hb.out.2.2 (λe=>by have e:w4.heap.size=w2.heap.size:=e;have:=HB.2.2.2.2.1;have:=HB.2.2.2.2.2.1;omega)).fr0 Fk;obtain⟨w7,K6,MN,R3⟩:=((hb.out.1.fr Fk id).fr ((Fr.refl NoT w6).drew) id).put Tryz.underlying74 (s:=px.nm) ((HX.2.1.procs px (by have:=List.mem_of_mem_drop (i:=k) (l:=t.procs) (a:=px) (by rw[hd];simp);exact this)).1) (.agg #[.string px.nm,.slice A1 l1 q1,.slice A2 l2 q2,.int .i64 px.at_]) (by have h1:=HN.2.2.1;unfold maxLen;omega);have p0:=L4.cell 0;have pl:=L4.lt;have t0:=Fy.cell 0;have t1:=Fy.cell 1;have t2:=Fy.cell 2;have t3:=Fy.cell 3;have tl:=Fy.lt;simp only[getsL]at p0 t0 t1 t2 t3;have Zx:Fr (λi=>i=w2.heap.size) w5 w7:=(hb.out.2.2.trans Fk.any).trans (((Fr.refl _ w6).drew).trans (Fr.grown R3 λg e _=>(Option.some.inj e).symm));have yE:MpV w7 w2.heap.size (k+1) (λy=>if y=px.nm.data.toList then some (prcV px A1 q1 A2 q2)else f y)/\PrM w S (zaj (t.procs.take (k+1))) (λy=>if y=px.nm.data.toList then some (prcV px A1 q1 A2 q2)else f y)/\Fr (λi=>i=w2.heap.size) w5 w7:=by
     refine⟨?_,?_,Zx⟩
     ·have:=MN;rw[Hv,Gl]at this;exact this
     ·have e9:t.procs.take (k+1)=t.procs.take k++ [px]:=by
       have h1:=List.take_add_one (l:=t.procs) (i:=k);have h2:t.procs[k]?=some px:=by
        have:=congrArg List.head? hd;rw[List.head?_drop]at this;exact this
       rw[h1,h2];rfl
      rw[e9];exact hb.out.2.1.put (s1.imp λ_ _=>VaR.lax) (s2.imp λ_ _=>StR.lax)
    have F8:=hdq yE;have Lx:=hdq GM;clear hd JT Hd Hf r1 d0 d1 d2 d3 s1 s2 G8 Km Hv Gl GM Fk Fy L4 MN R3 Zx yE;go_wp2_with fail;rw[<-Lx.out];clear c0 c1 c2 c3 Gf;refine zad (λW'=>w4.heap.size < W'.heap.size/\wr.heap.size < W'.heap.size/\W'.cell? ⟨w4.heap.size,0,none⟩=some (.map (some w2.heap.size))/\W'.cell? ⟨wr.heap.size,0,none⟩=some (.string px.nm)/\W'.cell? ⟨wr.heap.size,1,none⟩=some (.slice A1 l1 q1)/\W'.cell? ⟨wr.heap.size,2,none⟩=some (.slice A2 l2 q2)/\W'.cell? ⟨wr.heap.size,3,none⟩=some (.int .i64 px.at_)) (λi=>decide (i < 7)) (by kernel_rfl) ⟨pl,tl,p0,t0,t1,t2,t3⟩ (λhHeld=>?_);refine zaa 0 ?_;simp only[putsL];refine zaa 1 ?_;simp only[putsL];refine zaa 2 ?_;simp only[putsL];refine zaa 4 ?_;simp only[putsL];refine zaz 3 hHeld ?_;simp only[putsL];refine zaz 5 hHeld ?_;simp only[putsL];refine zaz 6 hHeld ?_;simp only[putsL];refine zab 7 rfl (by kernel_rfl) (λKK hK=>?_);go_simp;refine hK _ _ (λh=>absurd h (by decide)) ?_;clear hK KK;try simp only[putsL]
    refine zai (by kernel_rfl) ?_;clear p0 pl t0 t1 t2 t3 tl K6 hHeld;go_wp2_with fail;go_roundw;case rel=>exact⟨k+1,by omega,by go_num,_,F8⟩
    case measure=>simp[intOf];omega
   ·have Hl:¬(k:Int) < (n3:Int):=by omega
    have Qu:t.procs.take k=t.procs:=List.take_of_length_le (by have:=HN.2.2.1;omega);have Lz:w.heap.size<=w2.heap.size:=Mp.size;have G8:Fr NoT w wr:=Fr.back1 Zw.out (hb.out.2.2.mono λi _ e=>(by have e:i=w2.heap.size:=e;show w.heap.size<=i;omega)) (lrq _);have Tb:=HB.2.2.2.2.1;have L9:=HB.2.2.2.2.2.1;have Gn:=HB.2.2.2.2.2.2;have NO:w5.heap.size=w4.heap.size+1:=by rw[JD.out];simp
    have yF:=hb.out.2.2.size;have Ua:=hb.out.2.1;rw[Qu]at Ua;obtain⟨w7,M4⟩:=nmq (wr.alloc (.map #[] 0));have Gw:Fr NoT wr w7:=by rw[M4];exact(Fr.refl _ _).alloc _
    have Te:NmM w7 wr.heap.size 0 λ_=>none:=by rw[M4];exact MpV.made wr
    obtain⟨K,Nv⟩:∃K:InK,K=⟨w,S,w4.heap.size,w2.heap.size,k,f,zaj t.procs⟩:=⟨_,rfl⟩;have WV:K.Ok:=by
     rw[Nv];exact⟨HX.2.2.2,HX.1,Ua.1,Ua.2,PL.2.1⟩
    have WW:∀i,(Value.slice Av' n1 cv').ownBlock =some i->¬i=w2.heap.size:=λi hi e=>by have:=P0 i hi;omega
    have h7:InAt K w7 ⟨0,t.vars,0⟩ (.slice Av' n1 cv'):=by
     rw[Nv];refine⟨G8.trans Gw,(HB.1.fr hb.out.2.2 (λe=>by have e:w4.heap.size=w2.heap.size:=e;omega)).fr0 Gw,hb.out.1.fr Gw id,⟨csv,?_,(RowR.imp (w':=w) zbD (SameS.refl _ _) (λ_ _=>trivial) KS.out:RowR oneV w (λ_=>True) t.vars csv).any⟩,⟨by show w.heap.size<=w4.heap.size;omega,Lz⟩,⟨by show w4.heap.size≠w2.heap.size;omega,λe=>?_,λe=>WW _ e rfl⟩,by show 0<=261;omega,by show 0<=0+1;omega,?_⟩
     ·show w7.ownsRow w.heap.size _ _ _ t.vars.length csv
      rw[<-HN.1];exact zf2 (zag (zag HB.2.2.2.1 hb.out.2.2 WW) Gw λ_ _=>id) (by omega)
     ·have:=(P0 _ e).2;simp at this
     ·have:=PL.1;show t.vars.length<=36
      omega
    have Zy:InB K (.slice Av' n1 cv') wr.heap.size:=by
     rw[Nv];refine⟨by show wr.heap.size≠w4.heap.size;omega,by show wr.heap.size≠w2.heap.size;omega,λe=>?_⟩;have:=(P0 _ e).2;omega
    have LC:=PL.2.2 K WV (by rw[Nv]) w7 ⟨0,t.vars,0⟩ (.slice Av' n1 cv') (λ_=>none) wr.heap.size 0 Am cm h7 (lrq _) Te Zy (by rw[Nv];exact HX.2.2.1.main.imp λ_ _=>StR.lax);have hQ:inlF K.procs t.procs.length t.main (λ_=>none) ⟨0,t.vars,0⟩=inlQ t:=by rw[Nv];rfl
    have QR:K.P=w4.heap.size:=by rw[Nv]
    rw[hQ,QR,<-HN.2.2.2]at LC;have VQ:=HB.2.1.fr hb.out.2.2 (λe=>by have e:w.heap.size=w2.heap.size:=e;omega);have Ta:=HB.2.2.1.fr hb.out.2.2 (λe=>by have e:w.heap.size+1=w2.heap.size:=e;omega);have x3:=VQ.cell 3;have x3l:=VQ.lt;simp only[getsL]at x3;have QC:=hdq LC;have TD:=hdq M4;have JG:=hdq Gw;have S5:=hdq VQ;have qe:=hdq Ta;have XP:=hdq Nv;have xX:=hdq WV;have qf:=hdq G8;have HZ:=hdq (aiq Tb (aiq L9 (aiq Gn (aiq NO yF))));clear LC M4 Gw VQ Ta Nv WV G8 Tb L9 Gn NO yF Ua Te WW h7 Zy hQ QR Lz hb;go_wp2_with fail;rw[<-TD.out];go_at_call 28;refine QC.mono ?_;rintro _ w8 ⟨v8,vo8,DS,cs8,rfl,h8,Kb,WX,Gj,Ng,XQ,qg⟩;obtain⟨A8,c8,rfl,MI⟩:=Kb.slice (by have:=h8.most.1;omega);obtain⟨csv8,Gt,Jo⟩:=h8.row;obtain⟨V8,Em,rfl,_⟩:=zba Gt;have K5:∀i,i < w3.heap.size->¬InT K (.slice Av' n1 cv') i:=λi hi e=>by
     rcases e with e|e
     ·rw[XP.out]at e;have e:i=w4.heap.size:=e;have:=HZ.1;omega
     ·have:=P0 i e;omega
    have hz:=HZ.out;have KW:=(qe.fr0 JG.out).fr Gj (K5 _ (by omega));have QS:=(S5.fr0 JG.out).fr Gj (K5 _ (by omega));have Ss:Fr NoT w w8:=Fr.thenT (qf.trans JG.out) Gj λi hi e=>K5 i (by omega) e;have Zz:w7.heap.size<=w8.heap.size:=Gj.size;have ZA:wr.heap.size<=w7.heap.size:=JG.size;have Jm:=zhm K w8 (inlQ t).2 _ h8;have QR:K.P=w4.heap.size:=by rw[XP.out]
    rw[QR]at Jm;have QT:=h8.bk;rw[QR]at QT;obtain⟨s8,FH⟩:=nmq ((inlQ t).2 );rw[<-FH]at Jm QT Gt Jo;have NS:∀i,(Value.slice V8 s8.vars.length Em).ownBlock =some i->¬i=w.heap.size+1:=λi hi e=>by
     rw[FH]at hi;rcases Ng with k9|⟨g9,k9,FI⟩
     ·have:=P0 i (k9▸hi);omega
     ·rw[k9]at hi;have:=Option.some.inj hi;omega
    have Mq:DS.length<=261:=by have:=h8.most.1;omega
    obtain⟨vl,Pl⟩:=nmq s8.vars.length;rw[<-Pl]at QT NS;have Sj:=hdq Jm;have H8:=hdq (aiq MI (aiq Gt (aiq Jo (aiq WX (aiq NS Mq)))));have Ub:=hdq (aiq FH Pl);have KX:=hdq KW;have ZB:=hdq QS;have N7:=hdq Ss;have yG:=hdq QT;have xY:=hdq (aiq Zz (aiq ZA (by omega:w.heap.size+2<=w7.heap.size)));clear MI Gt Jo WX NS Mq FH Pl KW QS Ss QT Zz ZA Jm QR hz K5 Gj Ng XQ qg h8 Kb;go_wp2_with fail;go_at_call 29;refine Sj.mono ?_;rintro _ w9 ⟨rfl,rfl⟩;have z0:=KX.frozen 0;have z1:=KX.frozen 1;have z2:=KX.frozen 2;have z3:=KX.frozen 3;have y0:=KX.cell 0;have y1:=KX.cell 1;have y2:=KX.cell 2;have y3:=KX.cell 3;have yl:=KX.lt;simp only[getsL]at y0 y1 y2 y3;cases Ja:zaT s8 with
    |true=>
     have HR:=hdq (show inlT t=(zgC,9)from by unfold inlT;rw[<-PD.out,if_pos rfl,<-Ub.1,Ja];rfl);obtain⟨wf,Fc⟩:=nmq ((((w9.setCell ⟨w.heap.size+1,0,none⟩ (.slice none 0 0)).setCell ⟨w.heap.size+1,1,none⟩ (.slice none 0 0)).setCell ⟨w.heap.size+1,2,none⟩ (.slice none 0 0)).setCell ⟨w.heap.size+1,3,none⟩ (.slice none 0 0));have GH:Fr NoT w wf:=by rw[Fc];exact(((N7.high (by omega) _ _).high (by omega) _ _).high (by omega) _ _).high (by omega) _ _
     have Jp:Bk wf (w.heap.size+1) 27 #[.slice none 0 0,.slice none 0 0,.slice none 0 0,.slice none 0 0]:=by
      have:=(((KX.set_ 0 (.slice none 0 0)).set_ 1 (.slice none 0 0)).set_ 2 (.slice none 0 0)).set_ 3 (.slice none 0 0);rw[Fc];simpa using this
     have LA:=hdq Fc;have FK:=hdq GH;have KR:=hdq Jp;clear Fc GH Jp Ja;go_wp2_with fail;rw[<-LA.out];refine bodyPost_ret (zam (p:=2) (q:=3) (ty:=27) rfl _ _ (w.heap.size+1) 27 _ (0,0) _ rfl KR.out Tryz.underlying27 rfl zeI) rfl ?_;rw[HR.out];exact⟨none,none,none,none,0,0,0,0,rfl,zdi _ _,FK.out⟩
    |false=>
     have HR:=hdq (show inlT t=(⟨s8.vars,t.arrays, [],zao DS⟩,0)from by
      unfold inlT;rw[<-PD.out,if_pos rfl,<-Ub.1,Ja];simp only[Bool.false_eq_true,if_false,H8.2.2.2.1])
     obtain⟨csa,Su,Lq,N8,N9,Sv⟩:=slA HX.2.2.1.arrays;have U9:=λ(W:World)(hf:Fr NoT w9 W)=>zib Aa n2 ca csa W (by rw[HN.2.1];exact leq9 HX.2.2.1.arrays.1 HX.2.2.1.arrays.2.1.1) (by rw[HN.2.1];exact HX.2.2.1.arrays.2.1.2) (by rw[HN.2.1];exact Su) N8 (λe=>by rw[HN.2.1];exact N9 e) (λad e j u hj=>by
      have h1:=Sv ad e j u hj;exact((N7.trans hf).cell (zbu h1) id).trans h1)
     have qh:=hdq U9;have Sw:=hdq Lq;have p2:=yG.cell 2;have pl:=yG.lt;have q1:=ZB.cell 1;have ql:=ZB.lt;simp only[getsL]at p2 q1;have QL:=hdq Ja;clear Su Lq N8 N9 Sv U9 Ja;go_wp2_with fail;refine zad (λW'=>w4.heap.size < W'.heap.size/\w.heap.size < W'.heap.size/\W'.cell? ⟨w4.heap.size,2,none⟩=some (.slice V8 vl Em)/\W'.cell? ⟨w.heap.size,1,none⟩=some (.slice Aa n2 ca)) (λi=>decide (i < 9)) (by kernel_rfl) ⟨pl,ql,p2,q1⟩ (λhHeld=>?_);refine zaa 0 ?_;simp only[putsL];refine zaa 1 ?_;simp only[putsL];refine zaa 2 ?_;simp only[putsL];refine zaa 4 ?_;simp only[putsL];refine zaa 7 ?_;simp only[putsL];refine zaz 3 hHeld ?_;simp only[putsL];refine zaz 5 hHeld ?_;simp only[putsL];refine zab 6 rfl (by kernel_rfl) (λKK hK=>?_);go_simp;go_at_call 30;refine(qh _ ((Fr.refl NoT w9).drew)).mono ?_;rintro _ DI ⟨va,rfl,Vb,Vc,Ax,cx,rfl⟩;have Fo:Fr NoT w9 DI:=((Fr.refl NoT w9).drew).trans Vc;have Sx:w4.heap.size < DI.heap.size/\w.heap.size < DI.heap.size/\DI.cell? ⟨w4.heap.size,2,none⟩=some (.slice V8 vl Em)/\DI.cell? ⟨w.heap.size,1,none⟩=some (.slice Aa n2 ca):=⟨ltq pl Fo.size,ltq ql Fo.size,(Fo.cell (p:=⟨w4.heap.size,2,none⟩) pl id).trans p2,(Fo.cell (p:=⟨w.heap.size,1,none⟩) ql id).trans q1⟩;have Jq:=KX.fr0 Fo;clear z0 z1 z2 z3 y0 y1 y2 y3 yl;have z0:=Jq.frozen 0;have z1:=Jq.frozen 1;have z2:=Jq.frozen 2;have z3:=Jq.frozen 3;have y0:=Jq.cell 0;have y1:=Jq.cell 1;have y2:=Jq.cell 2;have y3:=Jq.cell 3;have yl:=Jq.lt;simp only[getsL]at y0 y1 y2 y3
     have J3:=hdq Fo;have Sl:=hdq Jq;have gY:=hdq Vb;clear Fo Vc Jq Vb hHeld;try dsimp only
     refine hK _ _ (λ_ _=>Sx) ?_;clear hK KK Sx;try simp only[putsL]
     refine zaa 8 ?_;simp only[putsL];refine zab 9 rfl (by kernel_rfl) (λKK hK=>?_);go_simp;refine hK _ _ (λh=>absurd h (by decide)) ?_;clear hK KK;try simp only[putsL]
     refine zab 10 rfl (by kernel_rfl) (λKK hK=>?_);go_simp;refine hK _ _ (λh=>absurd h (by decide)) ?_;clear hK KK;try simp only[putsL]
     refine zai (by kernel_rfl) ?_;obtain⟨wf,Fc⟩:=nmq ((((DI.setCell ⟨w.heap.size+1,0,none⟩ (.slice V8 vl Em)).setCell ⟨w.heap.size+1,1,none⟩ (.slice Ax n2 cx)).setCell ⟨w.heap.size+1,2,none⟩ (.slice none 0 0)).setCell ⟨w.heap.size+1,3,none⟩ (.slice A8 DS.length c8));rw[<-Fc];have JM:Fr (λi=>i=w.heap.size+1) DI wf:=by rw[Fc];exact Fr.own (Fr.own (Fr.own (Fr.own (Fr.refl _ _) _ _) _ _) _ _) _ _
     have GH:Fr NoT w wf:=Fr.thenT (N7.trans J3.out) JM λi hi e=>by have e:i=w.heap.size+1:=e;omega
     have Jp:Bk wf (w.heap.size+1) 27 #[.slice V8 vl Em,.slice Ax n2 cx,.slice none 0 0,.slice A8 DS.length c8]:=by
      have:=(((Sl.set_ 0 (.slice V8 vl Em)).set_ 1 (.slice Ax n2 cx)).set_ 2 (.slice none 0 0)).set_ 3 (.slice A8 DS.length c8);rw[Fc];simpa using this
     have JY:=hdq JM;have FK:=hdq GH;have KR:=hdq Jp;clear Fc GH JM Jp z0 z1 z2 z3 y0 y1 y2 y3 yl p2 pl q1 ql;go_wp2_with fail;refine bodyPost_ret (zam (p:=2) (q:=3) (ty:=27) rfl _ _ (w.heap.size+1) 27 _ (0,0) _ rfl KR.out Tryz.underlying27 rfl zeI) rfl ?_;rw[HR.out];obtain⟨MI,Gt,Jo,WX,NS,Mq⟩:=H8.out;have WU:=xY.out;have qi:=J3.size;have xZ:=JY.size;have Sy:wf.ownsRow w.heap.size 43 2 (.slice V8 s8.vars.length Em) s8.vars.length csv8:=by
      rw[XP.out]at Gt;exact zag (zag Gt J3.out λ_ _=>id) JY.out (by rw[Ub.2]at NS;exact NS)
     have P2:wf.ownsRow w.heap.size 66 3 (.slice Ax t.arrays.length cx) t.arrays.length csa:=by
      have h1:=gY.out;rw[HN.2.1]at h1;refine zf2 (zag h1 JY.out λi hi e=>?_) (by have:w9.drew.heap.size=w9.heap.size:=rfl;omega);have h2:=(zaf h1 hi).1;have:w9.drew.heap.size=w9.heap.size:=rfl;have e:i=w.heap.size+1:=e;omega
     have h9:s8.vars.length<=32:=by
      have h8:=QL.out;unfold zaT at h8;simp only[Bool.or_eq_false_iff,decide_eq_false_iff_not]at h8;omega
     obtain⟨B1,d1,e1,WY⟩:=RowR.slice zbD (sz:=24) Sy (RowR.anyV Jo) (by omega) (P:=λb o=>VaR wf (New w.heap.size wf) True s8.vars b o) λg hg hr hc=>rowV (o:=0) hg hr λj u hj=>by rw[Nat.zero_add];exact hc j u hj
     obtain⟨B2,d2,e2,L8⟩:=RowR.slice zbV (sz:=32) P2 (RowR.anyA Sw.out) (by exact HX.2.2.1.arrays.2.1.2) (P:=λb o=>ArR wf (New w.heap.size wf) True t.arrays b o) λg hg hr hc=>rowA (o:=0) hg hr λj u hj=>by rw[Nat.zero_add];exact hc j u hj
     injection e1 with e11 _ e12;injection e2 with e21 _ e22;subst e11 e12 e21 e22;have NT:(zao DS).len =DS.length:=za8 DS;refine⟨V8,Ax,none,A8,Em,cx,0,c8,?_,⟨WY,L8,slr0,?_⟩,FK.out⟩
     ·simp only[trV,NT,List.length_nil,Ub.2,HN.2.1];rfl
     ·show SlR _ (zao DS).len 128 A8 c8
      rw[NT];exact MI.imp λ_ _ hx=>StR.more (λi hi=>⟨by have:=hi.1;omega,by have:=hi.2.1;omega⟩) (StR.keep ((J3.same λi hi=>⟨hi.2.1,id⟩).trans (JY.same λi hi=>⟨by have:=hi.2.1;omega,λe=>by have e:i=w.heap.size+1:=e;have:=hi.1;omega⟩)) hx)
 ·have YU:¬F2=0:=h0;have z0:=Hp.frozen 0;have z1:=Hp.frozen 1;have z2:=Hp.frozen 2;have z3:=Hp.frozen 3;have y0:=Hp.cell 0;have y1:=Hp.cell 1;have y2:=Hp.cell 2;have y3:=Hp.cell 3;have yl:=Hp.lt;simp only[getsL]at y0 y1 y2 y3;have HR:=hdq (show inlT t=(zgC,F2)from by unfold inlT;rw[<-PD.out,if_neg h0]);clear JP Hp;obtain⟨wf,Fc⟩:=nmq ((((w2.setCell ⟨w.heap.size+1,0,none⟩ (.slice none 0 0)).setCell ⟨w.heap.size+1,1,none⟩ (.slice none 0 0)).setCell ⟨w.heap.size+1,2,none⟩ (.slice none 0 0)).setCell ⟨w.heap.size+1,3,none⟩ (.slice none 0 0));have GH:Fr NoT w wf:=by rw[Fc];exact(((Mp.high (by omega) _ _).high (by omega) _ _).high (by omega) _ _).high (by omega) _ _
  have Jp:Bk wf (w.heap.size+1) 27 #[.slice none 0 0,.slice none 0 0,.slice none 0 0,.slice none 0 0]:=by
   have:=(((Na.set_ 0 (.slice none 0 0)).set_ 1 (.slice none 0 0)).set_ 2 (.slice none 0 0)).set_ 3 (.slice none 0 0);rw[Fc];simpa using this
  have LA:=hdq Fc;have FK:=hdq GH;have KR:=hdq Jp;clear Fc GH Jp;go_wp2_with fail;rw[<-LA.out];refine bodyPost_ret (zam (p:=2) (q:=3) (ty:=27) rfl _ _ (w.heap.size+1) 27 _ (0,0) _ rfl KR.out Tryz.underlying27 rfl zeI) rfl ?_;rw[HR.out];exact⟨none,none,none,none,0,0,0,0,rfl,zdi _ _,FK.out⟩
theorem zmS (t:Tre)(w:World)(S:Nat->Prop)(Z:Prop)(Av Aa Ap Am:Option Addr)(cv ca cp cm:Nat)(he:SpEnv w)(Kr:Lib.TabIs Tryz.prog w "internal/strconv.uint64pow10" .u64 Lib.pow10Tab)(hS:∀b,S b->b < w.heap.size)(Ht:SzT t)(hx:TrR w S Z t Av Aa Ap Am cv ca cp cm):
  Calls Tryz.prog 8 #[trV t Av Aa Ap Am cv ca cp cm] w (InlP (inlT t) w):=
 znC t w S Z Av Aa Ap Am cv ca cp cm Kr hS Ht hx (λw1 Hi=>zjd t w1 S Z Av Aa Ap Am cv ca cp cm (he.keep Hi.plain) (λb hb=>ltq (hS b hb) Hi.size) Ht (hx.keep (Hi.same λb hb=>⟨hS b hb,id⟩)))
  λh=>have G9:=zc9 (t:=t) h
   ⟨(fewT_iff.1 G9.few).1,λy x e=>zgf G9 Ht (λx hm=>by
    obtain⟨b,o,_,h⟩:=hx.procs.2.2 (List.length_pos_iff.2 λe=>by rw[e]at hm;simp at hm);exact zke h x hm) e,λK hk e=>zkd hk t.procs.length t.main (by rw[e];exact ze2 G9) Ht.main⟩
