/- facetroomref12: statements with calls put in place. -/
import Derived.Test.YtmopichdofgndaaGreatDoorJgR2Pr
import Derived.Test.YtmopichdofgndaaGreatDoorInCall
set_option linter.all false
namespace Go.Proofs.YtmopichdofgndaaGreatDoor
open Go.RowKit Go.Shelf Go.Maps
def RP (K:RK)(r:Sts×Ist)(s:Ist)(w:World)(v:Value)(e:Ending)(w':World):Prop:=
 ∃v' vo acc cs,e= .returned vo/\RkAt K w' r.2 v'/\OutRow w.heap.size v' w' vo acc cs/\r.1=zao acc/\Fr (RT K v) w w'/\SpotP w v v'/\s.many+acc.length<=r.2.many/\r.2.calls<=r.2.many
def RB (K:RK)(v:Value)(w:World)(T:Nat->Prop):Prop:=∀b,T b->b < w.heap.size/\b≠K.P/\v.ownBlock≠some b
def RC (K:RK)(stm:Sts->Nms->Ist->Sts×Ist)(xs:Sts):Prop:=
 ∀(w:World)(s:Ist)(v:Value)(n:Nms)(A:Option Addr)(c:Nat)(fs ts:List ByteArray)(Af At:Option Addr)(cf ct:Nat)(T:Nat->Prop),RkAt K w s v->s.calls<=s.many->NmR w T n fs ts Af cf At ct->RB K v w T->n []=none->SlR (λb o=>StR K.W0 K.S False xs b o) xs.len 128 A c->
  Calls Tryz.prog 32 #[.pointer (some ⟨K.P,0,none⟩),.slice A xs.len c,.slice Af fs.length cf,.slice At ts.length ct] w (RP K (stm xs n s) s w v)
structure RSt (K:RK)(call:ByteArray->Exs->Nms->Int->Ist->Sts×Ist)(xs:Sts)(s:Ist)(n:Nms)(wr:World)(v vo:Value)(acc:List St)(cs:List Value)(si:Ist)(k:Nat)(v0:Value)(w:World)(fs ts:List ByteArray)(Af At:Option Addr)(cf ct:Nat)(T:Nat->Prop):Prop where
 st:RkAt K wr si v
 cm:si.calls<=si.many
 out:OutRow w.heap.size v wr vo acc cs
 nms:NmR wr T n fs ts Af cf At ct
 nb:RB K v wr T
 tw:∀b,T b->b < w.heap.size
 fr:Fr (RT K v0) w wr
 spot:SpotP w v0 v
 eq:(Sts.app (zao acc) (inlS call (Sts.drop k xs) n si).1,(inlS call (Sts.drop k xs) n si).2)=inlS call xs n s
 many:s.many+acc.length<=si.many
theorem RSt.next {K:RK}{call:ByteArray->Exs->Nms->Int->Ist->Sts×Ist}{xs:Sts}{s:Ist}{n:Nms}{wr:World}{vk vo:Value}{acc:List St}{cs:List Value}{si:Ist}{k:Nat}{v:Value}{w:World}{fs ts:List ByteArray}{Af At:Option Addr}{cf ct:Nat}{T:Nat->Prop}
  (h:RSt K call xs s n wr vk vo acc cs si k v w fs ts Af At cf ct T) (hL:K.P < w.heap.size/\K.W0.heap.size<=w.heap.size) {a0:Int} {a1 DL:ByteArray} {a2:Exs} {a3:Cds} {a4 a5:Sts} {a6:Int} {ar:Sts} (hd:Sts.drop k xs= .cons a0 a1 a2 a3 a4 a5 a6 ar) (Ja:zaT si=false) (h9:¬a0=9) (Fi:DL=if a0=3 then a1 else ofN n a1) (r0:in8 a0) (r1:in64 a6)
  {w8 w9 DI DO DN DQ DY DR Ee:World} (Gj:Fr (λi=>i=K.P\/i=wr.heap.size) wr w8) (TI:wr.heap.size < w8.heap.size) (Gm:Fr (λi=>i=wr.heap.size) w8 w9) (Fo:Fr (λi=>i=wr.heap.size) w9 DI) (FC:Fr (λi=>i=wr.heap.size) DI DO)
  {X2 X3 A4 A5:Option Addr} {x2 x3 c4 c5:Nat} (Ft:SlR (λb o=>ExR w9 (New w8.heap.size w9) True (zar n a2) b o) a2.len 64 X2 x2) (Kj:SlR (λb o=>CdR DI (New w9.heap.size DI) True (zaJ n a3) b o) a3.len 64 X3 x3)
  {s1 s2 s3:Ist} (Fs:s1=⟨si.calls,si.vars,si.many+1⟩) {v12 DV:Value} {DG DH:List St} (e2:(inlS call a4 n s1).2 =s2) (e3:(inlS call a5 n s2).2 =s3) (Nc:(inlS call a4 n s1).1 =zao DG) (Nd:(inlS call a5 n s2).1 =zao DH)
  (FV:Fr (λi=>RT K vk i\/i=wr.heap.size) DO DN) (Jb:SpotP DO vk v12) (QI:SlR (λb o=>StR DN (λi=>DO.heap.size<=i/\i < DN.heap.size/\v12.ownBlock≠some i) True (zao DG) b o) DG.length 128 A4 c4) (LD:s1.many+DG.length<=s2.many)
  (QJ:RkAt K DQ s3 DV) (Jx:Fr (RT K v12) DN DQ) (Jv:SpotP DN v12 DV) (QK:SlR (λb o=>StR DQ (λi=>DN.heap.size<=i/\i < DQ.heap.size/\DV.ownBlock≠some i) True (zao DH) b o) DH.length 128 A5 c5) (PW:s2.many+DH.length<=s3.many) (Nf:s3.calls<=s3.many)
  (FW:Fr (λi=>i=wr.heap.size) DQ DY) (Fq:Fr NoT DY DR) {DX:Value} (Hg:Ee.ownsRow w.heap.size 39 7 DX (acc.length+1) (cs++ [.int .u8 a0,.string DL,.slice X2 a2.len x2,.slice X3 a3.len x3,.slice A4 DG.length c4,.slice A5 DH.length c5,.int .i64 a6])) (hg:DR.grownBy Ee vo.ownBlock) (GP:DX.ownBlock=vo.ownBlock\/DX.ownBlock=some DR.heap.size):
  RSt K call xs s n Ee DV DX (acc++ [⟨a0,DL,zar n a2,zaJ n a3,zao DG,zao DH,a6⟩]) (cs++ [.int .u8 a0,.string DL,.slice X2 a2.len x2,.slice X3 a3.len x3,.slice A4 DG.length c4,.slice A5 DH.length c5,.int .i64 a6]) s3 (k+1) v w fs ts Af At cf ct T:=by
 obtain⟨XK,TW⟩:=hL;have z0:=h.fr.size;have z9:=Gm.size;have z10:=Fo.size;have z11:=FC.size;have z12:=FV.size;have z13:=Jx.size;have z14:=FW.size;have z15:=Fq.size;have T5:∀i,vk.ownBlock=some i->i < wr.heap.size:=λi hi=>by obtain⟨c9,h9,_⟩:=h.st.row;exact(zaf h9 hi).2
 have Mh:∀i,v12.ownBlock=some i->vk.ownBlock=some i\/DO.heap.size<=i:=λi hi=>by
  rcases Jb with e|⟨g,e,FI⟩
  ·exact .inl (e▸hi)
  ·rw[e]at hi;have:=Option.some.inj hi;exact .inr (by omega)
 have Sf:∀i,DV.ownBlock=some i->v12.ownBlock=some i\/DN.heap.size<=i:=λi hi=>by
  rcases Jv with e|⟨g,e,FI⟩
  ·exact .inl (e▸hi)
  ·rw[e]at hi;have:=Option.some.inj hi;exact .inr (by omega)
 have Mi:∀i,DV.ownBlock=some i->vk.ownBlock=some i\/DO.heap.size<=i:=λi hi=>by
  rcases Sf i hi with e|e
  ·exact Mh i e
  ·exact .inr (by omega)
 have Sg:∀i,DV.ownBlock=some i->i < DQ.heap.size:=λi hi=>by obtain⟨c9,h9,_⟩:=QJ.row;exact(zaf h9 hi).2
 have PX:∀i,vo.ownBlock=some i->w.heap.size<=i/\i < wr.heap.size:=λi hi=>zaf h.out.row hi;have Sh:SpotP wr vk DV:=(Jb.trans Jv z12).trans (SpotP.refl DQ DV) (by omega) |> λk=>by
  rcases k with e|⟨g,e,FI⟩
  ·exact .inl e
  ·exact .inr ⟨g,e,by omega⟩
 -- frames
 have f10:Fr (RT K vk) wr DI:=Fr.thenT (Fr.thenT (Fr.thenT (Fr.refl _ _) Gj λi hi e=>(by rcases e with e|e;exact .inl e;omega)) Gm λi hi e=>(by have e:i=wr.heap.size:=e;omega)) Fo λi hi e=>(by have e:i=wr.heap.size:=e;omega);have f12:Fr (RT K vk) wr DN:=Fr.thenT (Fr.thenT f10 FC λi hi e=>(by have e:i=wr.heap.size:=e;omega)) FV λi hi e=>(by
  rcases e with e|e
  ·exact e
  ·have e:i=wr.heap.size:=e;omega)
 have f13:Fr (RT K vk) wr DQ:=Fr.thenT f12 Jx λi hi e=>by
  rcases e with e|e
  ·exact .inl e
  ·rcases Mh i e with k9|k9
   ·exact .inr k9
   ·omega
 have f15:Fr (RT K vk) wr DR:=Fr.thenT (Fr.thenT f13 FW λi hi e=>(by have e:i=wr.heap.size:=e;omega)) Fq λ_ _ e=>e.elim;have Ep:∀i,w8.heap.size<=i->¬(i=wr.heap.size):=λi hi e=>by omega
 have Mj:∀i,w8.heap.size<=i->i < DO.heap.size->¬RT K vk i:=λi h1 h2 e=>by
  rcases e with e|e
  ·omega
  ·have:=T5 i e;omega
 have Ml:∀i,w8.heap.size<=i->i < DO.heap.size->¬RT K v12 i:=λi h1 h2 e=>by
  rcases e with e|e
  ·omega
  ·rcases Mh i e with k9|k9
   ·have:=T5 i k9;omega
   ·omega
 have s9:SameS (New w8.heap.size w9) w9 DR:=(((((Fo.same λi hi=>⟨hi.2,Ep i hi.1⟩).trans (FC.same λi hi=>⟨by have:=hi.2;omega,Ep i hi.1⟩)).trans (FV.same λi hi=>⟨by have:=hi.2;omega,λe=>e.elim (Mj i hi.1 (by have:=hi.2;omega)) (Ep i hi.1)⟩)).trans (Jx.same λi hi=>⟨by have:=hi.2;omega,Ml i hi.1 (by have:=hi.2;omega)⟩)).trans (FW.same λi hi=>⟨by have:=hi.2;omega,Ep i hi.1⟩)).trans (Fq.same λi hi=>⟨by have:=hi.2;omega,id⟩);have s10:SameS (New w9.heap.size DI) DI DR:=((((FC.same λi hi=>⟨hi.2,Ep i (by have:=hi.1;omega)⟩).trans (FV.same λi hi=>⟨by have:=hi.2;omega,λe=>e.elim (Mj i (by have:=hi.1;omega) (by have:=hi.2;omega)) (Ep i (by have:=hi.1;omega))⟩)).trans (Jx.same λi hi=>⟨by have:=hi.2;omega,Ml i (by have:=hi.1;omega) (by have:=hi.2;omega)⟩)).trans (FW.same λi hi=>⟨by have:=hi.2;omega,Ep i (by have:=hi.1;omega)⟩)).trans (Fq.same λi hi=>⟨by have:=hi.2;omega,id⟩);have s12:SameS (λi=>DO.heap.size<=i/\i < DN.heap.size/\v12.ownBlock≠some i) DN DR:=((Jx.same λi hi=>⟨hi.2.1,λe=>by
   rcases e with e|e
   ·have:=hi.1;omega
   ·exact hi.2.2 e⟩).trans (FW.same λi hi=>⟨by have:=hi.2.1;omega,Ep i (by have:=hi.1;omega)⟩)).trans (Fq.same λi hi=>⟨by have:=hi.2.1;omega,id⟩)
 have s13:SameS (λi=>DN.heap.size<=i/\i < DQ.heap.size/\DV.ownBlock≠some i) DQ DR:=(FW.same λi hi=>⟨hi.2.1,Ep i (by have:=hi.1;omega)⟩).trans (Fq.same λi hi=>⟨by have:=hi.2.1;omega,id⟩);have Ge:One1 [.int .u8 a0,.string DL,.slice X2 a2.len x2,.slice X3 a3.len x3,.slice A4 DG.length c4,.slice A5 DH.length c5,.int .i64 a6]:=by
  intro u hu;simp only[List.mem_cons,List.not_mem_nil,or_false]at hu;rcases hu with rfl|rfl|rfl|rfl|rfl|rfl|rfl<;>rfl
 have Ku:∀i,w8.heap.size<=i->i < DO.heap.size->DV.ownBlock≠some i:=λi h1 h2 e=>by
  rcases Mi i e with k9|k9
  ·have:=T5 i k9;omega
  ·omega
 have WB:oneS DR (OutS w.heap.size vo DV DR) ⟨a0,DL,zar n a2,zaJ n a3,zao DG,zao DH,a6⟩ [.int .u8 a0,.string DL,.slice X2 a2.len x2,.slice X3 a3.len x3,.slice A4 DG.length c4,.slice A5 DH.length c5,.int .i64 a6]:=by
  refine⟨X2,x2,X3,x3,A4,c4,A5,c5,by simp only[zaC,zaO,za8],r0,r1,?_,?_,?_,?_⟩
  ·show SlR _ (zar n a2).len 64 X2 x2
   rw[zaC];exact Ft.imp λ_ _ hx=>ExR.more (λi hi=>⟨by have:=hi.1;omega,by have:=hi.2;omega,λe=>by have:=PX i e;have:=hi.1;omega,Ku i hi.1 (by have:=hi.2;omega)⟩) (ExR.keep s9 hx)
  ·show SlR _ (zaJ n a3).len 64 X3 x3
   rw[zaO];exact Kj.imp λ_ _ hx=>CdR.more (λi hi=>⟨by have:=hi.1;omega,by have:=hi.2;omega,λe=>by have:=PX i e;have:=hi.1;omega,Ku i (by have:=hi.1;omega) (by have:=hi.2;omega)⟩) (CdR.keep s10 hx)
  ·show SlR _ (zao DG).len 128 A4 c4
   rw[za8];exact QI.imp λ_ _ hx=>StR.more (λi hi=>⟨by have:=hi.1;omega,by have:=hi.2.1;omega,λe=>by have:=PX i e;have:=hi.1;omega,λe=>by
    rcases Sf i e with k9|k9
    ·exact hi.2.2 k9
    ·have:=hi.2.1;omega⟩) (StR.keep s12 hx)
  ·show SlR _ (zao DH).len 128 A5 c5
   rw[za8];exact QK.imp λ_ _ hx=>StR.more (λi hi=>⟨by have:=hi.1;omega,by have:=hi.2.1;omega,λe=>by have:=PX i e;have:=hi.1;omega,hi.2.2⟩) (StR.keep s13 hx)
 have Mm:=h.out.keep f15 Sh XK;obtain⟨PY,Jn⟩:=Mm.step (ys:= [⟨a0,DL,zar n a2,zaJ n a3,zao DG,zao DH,a6⟩]) ⟨_, [],by simp,WB,rfl⟩ Ge Hg hg GP (λi hi=>by have:=Sg i hi;omega);have kS:∀i,DV.ownBlock=some i->¬i=wr.heap.size:=λi hi e=>by
  rcases Mi i hi with k9|k9
  ·have:=T5 i k9;omega
  ·omega
 have kT:RkAt K DR s3 DV:=(QJ.frT FW (λi e=>by have e:i=wr.heap.size:=e;omega) (λe=>by have e:K.P=wr.heap.size:=e;omega) kS).fr0 Fq;have hT:∀i,vo.ownBlock=some i->w.heap.size<=i:=λi hi=>(PX i hi).1;have Vw:∀b,T b->DV.ownBlock≠some b:=λb hb e=>by
  rcases Mi b e with k9|k9
  ·exact(h.nb b hb).2.2 k9
  ·have:=h.tw b hb;omega
 refine⟨kT.frT Jn (λi hi=>by have:=hT i hi;omega) (λe=>by have:=hT _ e;omega) (λi hi e=>Mm.ne i e hi),Nf,PY,?_,?_,h.tw,?_,h.spot.trans Sh z0,?_,?_⟩
 ·refine(h.nms.keep (λ_ h=>h) (f15.same λb hb=>⟨(h.nb b hb).1,λe=>?_⟩)).keep (λ_ h=>h) (Jn.same λb hb=>⟨by have:=h.tw b hb;omega,λe=>by have:=hT _ e;have:=h.tw b hb;omega⟩);rcases e with e|e
  ·exact(h.nb b hb).2.1 e
  ·exact(h.nb b hb).2.2 e
 ·exact λb hb=>⟨by have:=h.tw b hb;have:=Jn.size;omega,(h.nb b hb).2.1,Vw b hb⟩
 ·refine Fr.thenT (Fr.thenT h.fr f15 λi hi e=>?_) Jn λi hi e=>by have:=hT i e;omega
  rcases e with e|e
  ·exact .inl e
  ·rcases h.spot with k9|⟨g9,k9,FI⟩
   ·exact .inr (k9▸e)
   ·rw[k9]at e;have:=Option.some.inj e;omega
 ·rw[zbb,zbs,<-h.eq,hd,Sts.drop_succ k xs hd]
  conv=>rhs;unfold inlS
  rw[if_neg (by rw[Ja];simp),if_neg h9,<-Fs,e2,e3,Nc,Nd,<-Fi];rfl
 ·have:=h.many;rw[List.length_append];rw[Fs]at LD;simp only[List.length_cons,List.length_nil]at LD ⊢;omega
def RStI (K:RK)(call:ByteArray->Exs->Nms->Int->Ist->Sts×Ist)(xs:Sts):Prop:=
 ∀(i:Nat)(a0:Int)(a1:ByteArray)(a2:Exs)(a3:Cds)(a4 a5:Sts)(a6:Int)(ar:Sts),Sts.drop i xs= .cons a0 a1 a2 a3 a4 a5 a6 ar->RC K (inlS call) a4/\RC K (inlS call) a5/\(a0=2\/a0=3\/a0=4\/a0=9\/a1.data.toList= [])
def RCaP (K:RK)(call:ByteArray->Exs->Nms->Int->Ist->Sts×Ist)(xs:Sts):Prop:=
 ∀(i:Nat)(a1:ByteArray)(a2:Exs)(a3:Cds)(a4 a5:Sts)(a6:Int)(ar:Sts),Sts.drop i xs= .cons 9 a1 a2 a3 a4 a5 a6 ar->∀(w:World)(s:Ist)(v:Value)(n:Nms)(A2:Option Addr)(c2:Nat)(V3 V4 V5:Value)(fs ts:List ByteArray)(Af At:Option Addr)(cf ct:Nat)(T:Nat->Prop),RkAt K w s v->s.calls<=s.many->zaT s=false->NmR w T n fs ts Af cf At ct->RB K v w T->n []=none->SlR (λb o=>ExR K.W0 K.S False a2 b o) a2.len 64 A2 c2->in64 a6->
  Calls Tryz.prog 92 #[.pointer (some ⟨K.P,0,none⟩),.agg #[.int .u8 9,.string a1,.slice A2 a2.len c2,V3,V4,V5,.int .i64 a6],.slice Af fs.length cf,.slice At ts.length ct] w (RP K (call a1 a2 n a6 s) s w v)
structure OutX (L:Nat)(E:Nat->Prop)(w:World)(vo:Value)(acc:List St)(cs:List Value):Prop where
 row:w.ownsRow L 39 7 vo acc.length cs
 rows:RowR oneS w (λb=>L<=b/\b < w.heap.size/\vo.ownBlock≠some b/\¬E b) acc cs
 one:One1 cs
 ne:∀b,vo.ownBlock=some b->¬E b
theorem OutX.keep {L:Nat}{E E' T:Nat->Prop}{w w':World}{vo:Value}{acc:List St}{cs:List Value}(h:OutX L E w vo acc cs)(hf:Fr T w w')(hT:∀b,T b->b < L\/E b)(hE:∀b,b < w.heap.size->E' b->E b):OutX L E' w' vo acc cs:=
 ⟨zag h.row hf λb hb e=>by
   rcases hT b e with k|k
   ·have:=(zaf h.row hb).1;omega
   ·exact h.ne b hb k,
  RowR.imp zaB (hf.same λb hb=>⟨hb.2.1,λe=>by
   rcases hT b e with k|k
   ·have:=hb.1;omega
   ·exact hb.2.2.2 k⟩) (λb hb=>⟨hb.1,ltq hb.2.1 hf.size,hb.2.2.1,λe=>hb.2.2.2 (hE b hb.2.1 e)⟩) h.rows,h.one,λb hb e=>h.ne b hb (hE b (zaf h.row hb).2 e)⟩
theorem OutX.step {L:Nat}{E:Nat->Prop}{w w9:World}{vo DX:Value}{acc ys:List St}{cs zs:List Value}(h:OutX L E w vo acc cs)(hy:RowR oneS w (λb=>L<=b/\b < w.heap.size/\vo.ownBlock≠some b/\¬E b) ys zs)(h1:One1 zs)
  (GA:w9.ownsRow L 39 7 DX (acc.length+ys.length) (cs++zs)) (hg:w.grownBy w9 vo.ownBlock) (GP:DX.ownBlock=vo.ownBlock\/DX.ownBlock=some w.heap.size) (hE:∀b,E b->b < w.heap.size):
  OutX L E w9 DX (acc++ys) (cs++zs)/\Fr (λb=>vo.ownBlock=some b) w w9:=by
 have hf:Fr (λb=>vo.ownBlock=some b) w w9:=Fr.grown hg λg e _=>e;have hs:∀b,(L<=b/\b < w.heap.size/\vo.ownBlock≠some b/\¬E b)->(L<=b/\b < w9.heap.size/\DX.ownBlock≠some b/\¬E b):=λb hb=>⟨hb.1,ltq hb.2.1 hf.size,λe=>by
  rcases GP with h|h
  ·exact hb.2.2.1 (h▸e)
  ·rw[h]at e;have:=Option.some.inj e;have:=hb.2.1;omega,hb.2.2.2⟩
 have GW:SameS (λb=>L<=b/\b < w.heap.size/\vo.ownBlock≠some b/\¬E b) w w9:=hf.same λb hb=>⟨hb.2.1,hb.2.2.1⟩;refine⟨⟨by rw[List.length_append];exact GA,RowR.app (RowR.imp zaB GW hs hy) (RowR.imp zaB GW hs h.rows),h.one.app h1,λb hb=>?_⟩,hf⟩;rcases GP with e|e
 ·exact h.ne b (e▸hb)
 ·rw[e]at hb;have:=Option.some.inj hb;exact λNS=>by have:=hE b NS;omega
theorem OutX.toRow {L:Nat}{E:Nat->Prop}{w:World}{vo v:Value}{acc:List St}{cs:List Value}(h:OutX L E w vo acc cs)(hv:∀b,v.ownBlock=some b->E b):OutRow L v w vo acc cs:=
 ⟨h.row,RowR.imp zaB (SameS.refl _ _) (λb hb=>⟨hb.1,hb.2.1,hb.2.2.1,λe=>hb.2.2.2 (hv b e)⟩) h.rows,h.one,λb hb e=>h.ne b hb (hv b e)⟩
structure CaL (K:RK)(v0:Value)(w:World)(X L:Nat)(T:Nat->Prop):Prop where
 p:K.P < w.heap.size
 x:w.heap.size < X/\X < L
 w0:K.W0.heap.size<=w.heap.size
 nb:RB K v0 w T
 v0l:∀i,v0.ownBlock=some i->i < w.heap.size
structure CaF (K:RK)(v0:Value)(w:World)(X L:Nat)(bx bs:Array Value)(n:Nms)(fs ts:List ByteArray)(Af At:Option Addr)(cf ct:Nat)(T:Nat->Prop)(wr:World)(v:Value):Prop where
 fr:Fr (RT K v0) w wr
 spot:SpotP w v0 v
 vL:∀i,v.ownBlock=some i->i < w.heap.size\/L<=i
 xb:Bk wr X 68 bx
 box:Bk wr w.heap.size 39 bs
 nms:NmR wr T n fs ts Af cf At ct
 sz:L<=wr.heap.size
theorem CaF.go {K:RK}{v0:Value}{w:World}{X L:Nat}{bx bs:Array Value}{n:Nms}{fs ts:List ByteArray}{Af At:Option Addr}{cf ct:Nat}{T:Nat->Prop}{wr w':World}{v v':Value}{U:Nat->Prop}(hl:CaL K v0 w X L T)
  (h:CaF K v0 w X L bx bs n fs ts Af At cf ct T wr v) (hf:Fr U wr w') (hU:∀i,U i->i=K.P\/v.ownBlock=some i\/L<=i) (hv:SpotP wr v v'):CaF K v0 w X L bx bs n fs ts Af At cf ct T w' v':=by
 have Q3:=hl.x;have Py:=hl.p;have hz:=h.fr.size;have KH:∀i,i < w.heap.size->v.ownBlock=some i->v0.ownBlock=some i:=λi hi e=>by
  rcases h.spot with k|⟨g,k,hg⟩
  ·exact k▸e
  ·rw[k]at e;have:=Option.some.inj e;omega
 refine⟨Fr.thenT h.fr hf λi hi e=>?_,h.spot.trans hv hz,λi hi=>?_,h.xb.fr hf λe=>?_,h.box.fr hf λe=>?_,h.nms.keep (λ_ h=>h) (hf.same λb hb=>⟨?_,λe=>?_⟩),leq9 h.sz hf.size⟩
 ·rcases hU i e with k|k|k
  ·exact .inl k
  ·exact .inr (KH i hi k)
  ·omega
 ·rcases hv with k|⟨g,k,hg⟩
  ·exact h.vL i (k▸hi)
  ·rw[k]at hi;have:=Option.some.inj hi;have:=h.sz;exact .inr (by omega)
 ·rcases hU _ e with k|k|k
  ·omega
  ·have:=h.vL _ k;omega
  ·omega
 ·rcases hU _ e with k|k|k
  ·omega
  ·have:=hl.v0l _ ((by
    rcases h.spot with q|⟨g,q,hg⟩
    ·exact q▸k
    ·exfalso;have:=h.vL _ k;omega:v0.ownBlock=some w.heap.size));omega
  ·omega
 ·have:=(hl.nb b hb).1;omega
 ·have Gi:=hl.nb b hb;rcases hU _ e with k|k|k
  ·exact Gi.2.1 k
  ·exact Gi.2.2 (KH b Gi.1 k)
  ·have:=Gi.1;omega
def CE (v vf vt:Value):Nat->Prop:=λb=>v.ownBlock=some b\/vf.ownBlock=some b\/vt.ownBlock=some b
def TxRow (w:World)(L:Nat)(v:Value)(l:List ByteArray):Prop:=w.ownsRow L 9 1 v l.length (l.map Value.string)
structure CaQ (K:RK)(v0:Value)(w:World)(X L:Nat)(bx bs:Array Value)(n:Nms)(fs ts:List ByteArray)(Af At:Option Addr)(cf ct:Nat)(T:Nat->Prop)(wr:World)(st:Ist)(v vo vf vt:Value)(acc:List St)(cs:List Value)(nfs nts:List ByteArray):Prop where
 fs_:CaF K v0 w X L bx bs n fs ts Af At cf ct T wr v
 st_:RAtF K wr st v false
 out:OutX L (CE v vf vt) wr vo acc cs
 nf:TxRow wr L vf nfs
 nt:TxRow wr L vt nts
 ne1:∀i,vf.ownBlock=some i->vt.ownBlock≠some i/\v.ownBlock≠some i
 ne2:∀i,vt.ownBlock=some i->v.ownBlock≠some i
variable {K:RK} {v0:Value} {w:World} {X L:Nat} {bx bs:Array Value} {n:Nms} {fs ts:List ByteArray} {Af At:Option Addr} {cf ct:Nat} {T:Nat->Prop} {wr w9:World} {st:Ist} {v vo vf vt:Value} {acc:List St} {cs:List Value} {nfs nts:List ByteArray}
theorem RAtF.vlt {fl:Bool}(h:RAtF K wr st v fl):∀i,v.ownBlock=some i->i < wr.heap.size:=λi hi=>by obtain⟨c9,h9,_⟩:=h.row;exact(zaf h9 hi).2
theorem CaQ.fr0 (hl:CaL K v0 w X L T)(h:CaQ K v0 w X L bx bs n fs ts Af At cf ct T wr st v vo vf vt acc cs nfs nts)(hf:Fr NoT wr w9):CaQ K v0 w X L bx bs n fs ts Af At cf ct T w9 st v vo vf vt acc cs nfs nts:=
 ⟨h.fs_.go hl hf (λ_ e=>e.elim) (SpotP.refl _ _),h.st_.fr0 hf,h.out.keep hf (λ_ e=>e.elim) (λ_ _ e=>e),zag h.nf hf λ_ _=>id,zag h.nt hf λ_ _=>id,h.ne1,h.ne2⟩
theorem CaQ.name (hl:CaL K v0 w X L T)(h:CaQ K v0 w X L bx bs n fs ts Af At cf ct T wr st v vo vf vt acc cs nfs nts){vf':Value}{s:ByteArray}
  (GA:w9.ownsRow L 9 1 vf' (nfs.length+1) (nfs.map Value.string++ [.string s])) (hg:wr.grownBy w9 vf.ownBlock) (GP:vf'.ownBlock=vf.ownBlock\/vf'.ownBlock=some wr.heap.size):
  CaQ K v0 w X L bx bs n fs ts Af At cf ct T w9 st v vo vf' vt acc cs (nfs++ [s]) nts:=by
 have hf:Fr (λb=>vf.ownBlock=some b) wr w9:=Fr.grown hg λg e _=>e;have Ja:∀i,vf.ownBlock=some i->L<=i/\i < wr.heap.size:=λi hi=>zaf h.nf hi;have Q3:=hl.x;have Py:=hl.p;have qI:=hl.w0;have hE:∀b,b < wr.heap.size->CE v vf' vt b->CE v vf vt b:=λb hb e=>by
  rcases e with e|e|e
  ·exact .inl e
  ·rcases GP with k|k
   ·exact .inr (.inl (k▸e))
   ·rw[k]at e;have:=Option.some.inj e;omega
  ·exact .inr (.inr e)
 have Pl:=h.st_.vlt;have XW:∀i,vt.ownBlock=some i->i < wr.heap.size:=λi hi=>(zaf h.nt hi).2;refine⟨h.fs_.go hl hf (λi e=> .inr (.inr (Ja i e).1)) (SpotP.refl _ _),h.st_.frT hf (λi e=>by have:=Ja i e;omega) (λe=>by have:=Ja _ e;omega) (λi hi e=>(h.ne1 i e).2 hi),h.out.keep hf (λb e=> .inr (.inr (.inl e))) hE,?_,zag h.nt hf λi hi e=>(h.ne1 i e).1 hi,λi hi=>?_,h.ne2⟩
 ·unfold TxRow;rw[List.length_append,List.map_append];exact GA
 ·rcases GP with k|k
  ·exact h.ne1 i (k▸hi)
  ·rw[k]at hi;have:=Option.some.inj hi;exact⟨λe=>by have:=XW i e;omega,λe=>by have:=Pl i e;omega⟩
theorem CaQ.new_ (hl:CaL K v0 w X L T)(h:CaQ K v0 w X L bx bs n fs ts Af At cf ct T wr st v vo vf vt acc cs nfs nts){vt':Value}{s:ByteArray}
  (GA:w9.ownsRow L 9 1 vt' (nts.length+1) (nts.map Value.string++ [.string s])) (hg:wr.grownBy w9 vt.ownBlock) (GP:vt'.ownBlock=vt.ownBlock\/vt'.ownBlock=some wr.heap.size):
  CaQ K v0 w X L bx bs n fs ts Af At cf ct T w9 st v vo vf vt' acc cs nfs (nts++ [s]):=by
 have hf:Fr (λb=>vt.ownBlock=some b) wr w9:=Fr.grown hg λg e _=>e;have Ja:∀i,vt.ownBlock=some i->L<=i/\i < wr.heap.size:=λi hi=>zaf h.nt hi;have Q3:=hl.x;have Py:=hl.p;have qI:=hl.w0;have hE:∀b,b < wr.heap.size->CE v vf vt' b->CE v vf vt b:=λb hb e=>by
  rcases e with e|e|e
  ·exact .inl e
  ·exact .inr (.inl e)
  ·rcases GP with k|k
   ·exact .inr (.inr (k▸e))
   ·rw[k]at e;have:=Option.some.inj e;omega
 have Pl:=h.st_.vlt;have XW:∀i,vf.ownBlock=some i->i < wr.heap.size:=λi hi=>(zaf h.nf hi).2;refine⟨h.fs_.go hl hf (λi e=> .inr (.inr (Ja i e).1)) (SpotP.refl _ _),h.st_.frT hf (λi e=>by have:=Ja i e;omega) (λe=>by have:=Ja _ e;omega) (λi hi e=>h.ne2 i e hi),h.out.keep hf (λb e=> .inr (.inr (.inr e))) hE,zag h.nf hf λi hi e=>(h.ne1 i hi).1 e,?_,λi hi=>?_,λi hi=>?_⟩
 ·unfold TxRow;rw[List.length_append,List.map_append];exact GA
 ·rcases GP with k|k
  ·exact⟨k▸(h.ne1 i hi).1,(h.ne1 i hi).2⟩
  ·exact⟨λe=>by rw[k]at e;have:=Option.some.inj e;have:=XW i hi;omega,(h.ne1 i hi).2⟩
 ·rcases GP with k|k
  ·exact h.ne2 i (k▸hi)
  ·rw[k]at hi;have:=Option.some.inj hi;exact λe=>by have:=Pl i e;omega
theorem CaQ.put (hl:CaL K v0 w X L T)(h:CaQ K v0 w X L bx bs n fs ts Af At cf ct T wr st v vo vf vt acc cs nfs nts){DX:Value}{y:St}{zs:List Value}
  (hy:oneS wr (λb=>L<=b/\b < wr.heap.size/\vo.ownBlock≠some b/\¬CE v vf vt b) y zs) (h1:One1 zs)
  (GA:w9.ownsRow L 39 7 DX (acc.length+1) (cs++zs)) (hg:wr.grownBy w9 vo.ownBlock) (GP:DX.ownBlock=vo.ownBlock\/DX.ownBlock=some wr.heap.size):
  CaQ K v0 w X L bx bs n fs ts Af At cf ct T w9 st v DX vf vt (acc++ [y]) (cs++zs) nfs nts:=by
 have KL:∀i,vo.ownBlock=some i->L<=i/\i < wr.heap.size:=λi hi=>zaf h.out.row hi;have Q3:=hl.x;have Py:=hl.p;have qI:=hl.w0;obtain⟨ho,hf⟩:=h.out.step (ys:= [y]) ⟨_, [],by simp,hy,rfl⟩ h1 GA hg GP (λb e=>by
  rcases e with e|e|e
  ·exact h.st_.vlt b e
  ·exact(zaf h.nf e).2
  ·exact(zaf h.nt e).2)
 exact⟨h.fs_.go hl hf (λi e=> .inr (.inr (KL i e).1)) (SpotP.refl _ _),h.st_.frT hf (λi e=>by have:=KL i e;omega) (λe=>by have:=KL _ e;omega) (λi hi e=>h.out.ne i e (.inl hi)),ho,zag h.nf hf λi hi e=>h.out.ne i e (.inr (.inl hi)),zag h.nt hf λi hi e=>h.out.ne i e (.inr (.inr hi)),h.ne1,h.ne2⟩
theorem CaQ.push (hl:CaL K v0 w X L T)(h:CaQ K v0 w X L bx bs n fs ts Af At cf ct T wr st v vo vf vt acc cs nfs nts){v':Value}{x:Va}{cs9:List Value}(Jg:RowR oneV wr (λ_=>True) st.vars cs9)(hx:in64 x.at_)(hlen:st.vars.length+1<=36)
  (GA:w9.ownsRow K.W0.heap.size 43 2 v' (st.vars.length+1) (cs9++ [.string x.nm,.int .i64 x.at_])) (hg:wr.grownBy w9 v.ownBlock) (GP:v'.ownBlock=v.ownBlock\/v'.ownBlock=some wr.heap.size):
  CaQ K v0 w X L bx bs n fs ts Af At cf ct T (w9.setCell ⟨K.P,2,none⟩ v') ⟨st.calls,st.vars++ [x],st.many⟩ v' vo vf vt acc cs nfs nts:=by
 have hf:Fr (λb=>v.ownBlock=some b) wr w9:=Fr.grown hg λg e _=>e;have Fx:∀b,v.ownBlock=some b->K.W0.heap.size<=b:=λb hb=>by
  obtain⟨cs,h1,_⟩:=h.st_.row;exact(zaf h1 hb).1
 have Pl:=h.st_.vlt;have Yf:=h.st_.bk.lt;have Q3:=hl.x;have Py:=hl.p;have Jl:=h.st_.bk.fr hf h.st_.ne;have GU:v'.ownBlock≠some K.P:=by
  rcases GP with e|e
  ·rw[e];exact h.st_.ne
  ·rw[e];exact λe=>by have:=Option.some.inj e;omega
 have Gm:Fr (λb=>b=K.P) w9 (w9.setCell ⟨K.P,2,none⟩ v'):=Fr.own (Fr.refl _ _) 2 v';have UX:Fr (λb=>b=K.P\/v.ownBlock=some b) wr (w9.setCell ⟨K.P,2,none⟩ v'):=(hf.mono λ_ _ e=> .inr e).trans (Gm.mono λ_ _ e=> .inl e);have QA:∀i,i < wr.heap.size->v'.ownBlock=some i->v.ownBlock=some i:=λi hi e=>by
  rcases GP with k|k
  ·exact k▸e
  ·rw[k]at e;have:=Option.some.inj e;omega
 have Ja:∀i,vf.ownBlock=some i->L<=i/\i < wr.heap.size:=λi hi=>zaf h.nf hi;have XW:∀i,vt.ownBlock=some i->L<=i/\i < wr.heap.size:=λi hi=>zaf h.nt hi;refine⟨h.fs_.go hl UX (λi e=>e.elim .inl λe=> .inr (.inl e)) ?_,⟨Fr.back1 h.st_.fr (UX.mono λb _ e=>(by
   show K.W0.heap.size<=b
   rcases e with e|e
   ·have:=h.st_.high;omega
   ·exact Fx b e)) (lrq _),?_,⟨cs9++ [.string x.nm,.int .i64 x.at_],?_,?_⟩,h.st_.high,GU,h.st_.most.1,h.st_.most.2.1,?_⟩,h.out.keep UX (λb e=>?_) (λb hb e=>?_),zag h.nf UX λi hi e=>?_,zag h.nt UX λi hi e=>?_,λi hi=>⟨(h.ne1 i hi).1,λe=>(h.ne1 i hi).2 (QA i (Ja i hi).2 e)⟩,λi hi e=>h.ne2 i hi (QA i (XW i hi).2 e)⟩
 ·rcases GP with e|e
  ·exact .inl e
  ·exact .inr ⟨_,e,lrq _⟩
 ·have:=Jl.set_ 2 v';simpa using this
 ·show World.ownsRow _ _ _ _ _ (st.vars++ [x]).length _
  rw[List.length_append];exact zag GA Gm λb hb e=>by have e:b=K.P:=e;subst e;exact GU hb
 ·exact RowR.any (RowR.snoc (w:=wr) ⟨rfl,hx⟩ Jg)
 ·show(st.vars++ [x]).length <=36
  simpa using hlen
 ·rcases e with e|e
  ·exact .inl (by omega)
  ·exact .inr (.inl e)
 ·rcases e with e|e|e
  ·exact .inl (QA b hb e)
  ·exact .inr (.inl e)
  ·exact .inr (.inr e)
 ·rcases e with e|e
  ·have:=Ja i hi;omega
  ·exact(h.ne1 i hi).2 e
 ·rcases e with e|e
  ·have:=XW i hi;omega
  ·exact h.ne2 i hi e
theorem TxRow.nil (w:World)(L:Nat):TxRow w L (.slice none 0 0) []:=World.ownsRow_nil _ _ _ _
theorem TxRow.sl {w:World}{L:Nat}{v:Value}{l:List ByteArray}(h:TxRow w L v l){S:Nat->Prop}(hS:∀b,v.ownBlock=some b->S b):∃A c,v= .slice A l.length c/\TxSl w S l A c:=by
 rcases h.2 with⟨e,h0⟩|⟨g,cap,cur,e,hb,hg,hn,hc,F6,ht⟩
 ·exact⟨none,0,by rw[e,h0],by rw[h0];exact lrq 0,by decide,λhp=>by omega⟩
 ·refine⟨some ⟨g,0,none⟩,cap,e,hn,by unfold maxLen at hc;omega,λ_=>⟨g,0,rfl,hS g (by rw[e];rfl),λi s hs=>?_⟩⟩;have h2:w.ownsRow L 9 1 v l.length (l.map Value.string):=h;rw[e]at h2;have:=h2.cells (g:=g) rfl i (.string s) (by rw[List.getElem?_map,hs];rfl);rw[zek]at this;exact this
theorem zfw (p:ByteArray)(c:Nat)(y:ByteArray):∀(ps:List Va),((∃v∈ps,v.nm=y)->renL (ps.map Va.nm) (ps.map λv=>parN p c v.nm) y=parN p c y)/\((¬∃v∈ps,v.nm=y)->renL (ps.map Va.nm) (ps.map λv=>parN p c v.nm) y=y)
 | []=>⟨fun⟨_,h,_⟩=>(by simp at h),λ_=>rfl⟩
 |v::r=>by
  have ih:=zfw p c y r;simp only[List.map_cons,renL];by_cases e:v.nm=y
  ·exact⟨λ_=>by rw[if_pos e,e],λh=>absurd ⟨v,by simp,e⟩ h⟩
  ·refine⟨fun⟨z,hz,Tf⟩=>?_,λh=>?_⟩
   ·rw[if_neg e];refine ih.1 ⟨z,?_,Tf⟩;rcases List.mem_cons.1 hz with rfl|hz
    ·exact absurd Tf e
    ·exact hz
   ·rw[if_neg e];exact ih.2 fun⟨z,hz,Tf⟩=>h ⟨z,by simp[hz],Tf⟩
theorem zgX (p:ByteArray)(c:Nat)(y:ByteArray):∀(ps:List Va)(o:Nms),((∃v∈ps,v.nm=y)->ownN p c ps o y.data.toList=some (parN p c y))/\((¬∃v∈ps,v.nm=y)->ownN p c ps o y.data.toList=o y.data.toList)
 | [],o=>⟨fun⟨_,h,_⟩=>(by simp at h),λ_=>rfl⟩
 |v::r,o=>by
  have ih:=zgX p c y r (λz=>if z=v.nm.data.toList then some (parN p c v.nm)else o z);simp only[ownN];have S3:∀a b:ByteArray,a.data.toList=b.data.toList->a=b:=λa b h=>by
   cases a;cases b;simp only[ByteArray.mk.injEq];exact Array.toList_inj.1 h
  by_cases hr:∃z∈r,z.nm=y
  ·exact⟨λ_=>ih.1 hr,λh=>absurd (by obtain⟨z,hz,Tf⟩:=hr;exact⟨z,by simp[hz],Tf⟩) h⟩
  ·rw[ih.2 hr];refine⟨fun⟨z,hz,Tf⟩=>?_,λh=>?_⟩
   ·rcases List.mem_cons.1 hz with rfl|hz
    ·rw[if_pos (by rw[Tf]),Tf]
    ·exact absurd ⟨z,hz,Tf⟩ hr
   ·rw[if_neg λe=>h ⟨v,by simp,(S3 _ _ e).symm⟩]
theorem zhB (p:ByteArray)(c:Nat):∀(ps:List Va)(o:Nms),(∀v∈ps,v.nm.data.toList≠ [])->o []=none->ownN p c ps o []=none
 | [],o,_,h=>h
 |v::r,o,hp,h=>zhB p c r _ (λz hz=>hp z (by simp[hz])) (by rw[if_neg λe=>hp v (by simp) e.symm];exact h)
theorem NmR.built {w:World}{L:Nat}{vf vt:Value}(p:ByteArray)(c:Nat)(ps:List Va)(hf:TxRow w L vf (ps.map Va.nm))(ht:TxRow w L vt (ps.map λv=>parN p c v.nm)):
  ∃Af cf At ct,vf= .slice Af (ps.map Va.nm).length cf/\vt= .slice At (ps.map λv=>parN p c v.nm).length ct/\NmR w (λb=>vf.ownBlock=some b\/vt.ownBlock=some b) (ownN p c ps λ_=>none) (ps.map Va.nm) (ps.map λv=>parN p c v.nm) Af cf At ct:=by
 obtain⟨Af,cf,e1,h1⟩:=hf.sl (S:=λb=>vf.ownBlock=some b\/vt.ownBlock=some b) λb hb=> .inl hb;obtain⟨At,ct,e2,h2⟩:=ht.sl (S:=λb=>vf.ownBlock=some b\/vt.ownBlock=some b) λb hb=> .inr hb;refine⟨Af,cf,At,ct,e1,e2,h1,h2,by simp,λy=>?_⟩;unfold ofN;by_cases hy:∃v∈ps,v.nm=y
 ·rw[(zfw p c y ps).1 hy,(zgX p c y ps _).1 hy];rfl
 ·rw[(zfw p c y ps).2 hy,(zgX p c y ps _).2 hy];rfl
def CaN (K:RK)(x:Prc)(s:Ist)(n:Nms)(args:Exs)(at_:Int)(v0:Value)(w:World)(X L:Nat)(bx bs:Array Value)(fs ts:List ByteArray)(Af At:Option Addr)(cf ct:Nat)(T:Nat->Prop)(wr:World)(vo vf vt:Value)(k:Nat):Prop:=
 ∃v acc cs,CaQ K v0 w X L bx bs n fs ts Af At cf ct T wr ⟨s.calls+1,s.vars++(x.params.take k).map (zgS x.nm (s.calls+1)),s.many⟩ v vo vf vt acc cs ((x.params.take k).map Va.nm) ((x.params.take k).map λp=>parN x.nm (s.calls+1) p.nm)/\
  Sts.app (zao acc) (zby x.nm (s.calls+1) n at_ (x.params.drop k) (Exs.drop k args))= .cons 1 ⟨#[]⟩ .nil .nil .nil .nil at_ (zby x.nm (s.calls+1) n at_ x.params args)/\acc.length=k+1
theorem zd4 {α β:Type}(f:α->β){l:List α}{k:Nat}{y:α}{r:List α}(h:l.drop k=y::r):(l.take (k+1)).map f=(l.take k).map f++ [f y]:=by
 have h1:l[k]?=some y:=by
  have:=congrArg (·[0]?) h;simpa using this
 rw[List.take_add_one,h1];simp
theorem CaN.next {K:RK}{x:Prc}{s:Ist}{n:Nms}{args:Exs}{at_:Int}{v0:Value}{w:World}{X L:Nat}{bx bs:Array Value}{fs ts:List ByteArray}{Af At:Option Addr}{cf ct:Nat}{T:Nat->Prop}{wr:World}{v vo vf vt:Value}{acc:List St}{cs:List Value}{k:Nat}
  {pv:Va} {pr:List Va} {e0:Int} {e1:ByteArray} {e2:Int} {e3:Exs} {e4:Int} {er:Exs} (hd:x.params.drop k=pv::pr) (he:Exs.drop k args= .cons e0 e1 e2 e3 e4 er)
  (h:CaQ K v0 w X L bx bs n fs ts Af At cf ct T wr ⟨s.calls+1,s.vars++(x.params.take k).map (zgS x.nm (s.calls+1))++ [⟨parN x.nm (s.calls+1) pv.nm,pv.at_⟩],s.many⟩ v vo vf vt (acc++ [zfn (parN x.nm (s.calls+1) pv.nm) n e0 e1 e2 e3 e4 at_]) cs ((x.params.take k).map Va.nm++ [pv.nm]) (((x.params.take k).map λp=>parN x.nm (s.calls+1) p.nm)++ [parN x.nm (s.calls+1) pv.nm]))
  (heq:Sts.app (zao acc) (zby x.nm (s.calls+1) n at_ (x.params.drop k) (Exs.drop k args))= .cons 1 ⟨#[]⟩ .nil .nil .nil .nil at_ (zby x.nm (s.calls+1) n at_ x.params args)) (hl:acc.length=k+1):
  CaN K x s n args at_ v0 w X L bx bs fs ts Af At cf ct T wr vo vf vt (k+1):=by
 have JT:x.params.drop (k+1)=pr:=by
  rw[<-List.drop_drop,hd];rfl
 refine⟨v,_,cs,by rw[zd4 _ hd,zd4 _ hd,zd4 _ hd,<-List.append_assoc];exact h,?_,by simp[hl]⟩;rw[zbb,zbs,<-heq,hd,he,JT,Exs.drop_succ k args he];rfl
theorem zmZ:(Tryz.prog.info? 9).map (λi=>(i.zero,i.size,i.bytes))=some (some (.string ⟨#[]⟩),1,16):=by kernel_rfl
set_option maxRecDepth 100000 in
set_option maxHeartbeats 3200000 in
theorem zkt (K:RK)(hk:K.Ok)(stm:Sts->Nms->Ist->Sts×Ist)(x:Prc)(NV:RC K stm x.body)(w:World)(s:Ist)(v:Value)(n:Nms)(kst:Int)(nm:ByteArray)(args:Exs)(A2:Option Addr)(c2:Nat)(V3 V4 V5:Value)(at_:Int)(fs ts:List ByteArray)(Af At:Option Addr)(cf ct:Nat)(T:Nat->Prop)
  (h:RkAt K w s v) (Js:s.calls<=s.many) (Jm:zaT s=false) (hn:NmR w T n fs ts Af cf At ct) (hb:RB K v w T) (hx:K.procs nm.data.toList=some x) (NJ:x.params.length=args.len) (ha:SlR (λb o=>ExR K.W0 K.S False args b o) args.len 64 A2 c2) (Hd:in64 at_):
  Calls Tryz.prog 92 #[.pointer (some ⟨K.P,0,none⟩),.agg #[.int .u8 kst,.string nm,.slice A2 args.len c2,V3,V4,V5,.int .i64 at_],.slice Af fs.length cf,.slice At ts.length ct] w (RP K (zcR K.procs stm nm args n at_ s) s w v):=by
 obtain⟨GB,Jn,Po,Y7,TX⟩:=hk.few _ _ hx;have Rb:args.len<=9223372036854775807:=leq9 ha.1 ha.2.1.1;obtain⟨ml,NT⟩:=nmq args.len;obtain⟨pl,QE⟩:=nmq x.params.length;obtain⟨bl,MQ⟩:=nmq x.body.len;obtain⟨nf,P8⟩:=nmq fs.length;obtain⟨nt,P9⟩:=nmq ts.length;have h0:RAtF K w s v false:=by have:=h;unfold RkAt at this;rw[Jm]at this;exact this
 obtain⟨w1,Hc⟩:=nmq (w.alloc (.cells #[.int .u8 kst,.string nm,.slice A2 args.len c2,V3,V4,V5,.int .i64 at_] 39));have Hi:Fr NoT w w1:=by rw[Hc];exact(Fr.refl _ _).alloc _
 have Hp:Bk w1 w.heap.size 39 #[.int .u8 kst,.string nm,.slice A2 args.len c2,V3,V4,V5,.int .i64 at_]:=by rw[Hc];exact Bk.new _ _ _
 have Gh:w1.heap.size=w.heap.size+1/\K.P < w.heap.size:=⟨by rw[Hc];simp,h0.bk.lt⟩;have h1:=h0.fr0 Hi;rw[<-NT]at Hp Hc ⊢;rw[<-P8,<-P9];have Wr:=hdq (zit K hk w1 s v false h1 nm x hx);have HH:=hdq (aiq h0 (aiq Js (aiq Jm (aiq hn (aiq hb (aiq hx (aiq NJ ha)))))));have HP:=hdq (aiq GB (aiq Jn (aiq Po (aiq Y7 TX))));have HL:=hdq (aiq NT (aiq QE (aiq MQ (aiq P8 (aiq P9 Gh)))));have H1:=hdq h1;have Ga:=hdq Hc;have Hn:=hdq Hi;have Gv:=hdq Hp;have Ye:=hdq NV;have HK:=hdq hk;have Lp:=hdq Hd;clear h h0 h1 Js Jm hn hb hx NJ ha Hd Hi Hp Hc GB Jn Po Y7 TX NT QE MQ P8 P9 NV hk Gh;go_enter Tryz.func92,Tryz.ntmps92;go_wp2_with fail;rw[<-Ga.out];refine Wr.mono ?_;rintro _ w2 ⟨pA,pc,pB,pe,rfl,Gd,RV,RW⟩;rw[show prcV x pA pc pB pe= .agg #[.string x.nm,.slice pA pl pc,.slice pB bl pe,.int .i64 x.at_]from by rw[HL.2.1,HL.2.2.1];rfl];have h2:=H1.fr0 Gd;obtain⟨cn,FE⟩:=nmq s.calls;have g1:=h2.bk.cell 1;have f1:=h2.bk.frozen 1;have gl:=h2.bk.lt;simp only[getsL]at g1;rw[<-FE]at g1;have KM:cn<=262:=by have:=HH.2.1;have:=h2.most.1;omega
 obtain⟨X,hX⟩:=nmq w2.heap.size;obtain⟨c1n,NW⟩:=nmq (s.calls+1);have JH:((cn:Int)+1)=(c1n:Int):=by omega
 obtain⟨w3,F3⟩:=nmq (w2.setCell ⟨K.P,1,none⟩ (.int .i64 (c1n:Int)));obtain⟨w4,G7⟩:=nmq (w3.alloc (.cells #[.string x.nm,.slice pA pl pc,.slice pB bl pe,.int .i64 x.at_] 68));have GQ:Fr (λi=>i=K.P) w2 w3:=by rw[F3];exact Fr.own (Fr.refl _ _) _ _
 have GB:Fr NoT w3 w4:=by rw[G7];exact(Fr.refl _ _).alloc _
 have L9:w3.heap.size=X:=by rw[F3,hX];simp
 have GX:Bk w4 X 68 #[.string x.nm,.slice pA pl pc,.slice pB bl pe,.int .i64 x.at_]:=by rw[G7];exact Bk.new_at _ _ _ L9
 have h3:RAtF K w3 ⟨s.calls+1,s.vars,s.many⟩ v false:=by
  refine h2.set GQ ?_ rfl ⟨h2.most.1,by have:=HH.2.1;show s.calls+1<=s.many+1;omega⟩;have:=h2.bk.set_ 1 (.int .i64 (c1n:Int));rw[F3];simpa[NW]using this
 have h4:=h3.fr0 GB;have kb4:=((Gv.fr0 Gd).fr GQ (λe=>by have e:w.heap.size=K.P:=e;have:=HL.2.2.2.2.2;omega)).fr0 GB;have q0:=GX.cell 0;have ER:=GX.lt;have q1:=h4.bk.cell 1;have E0:=h4.bk.lt;simp only[getsL]at q0 q1;rw[<-NW]at q1;have hit:∀W,Fr NoT w4 W->Calls Tryz.prog 39 #[.int .i64 c1n] W λe w'=>e= .returned (.string ⟨(Lib.itoa (c1n:Int)).toArray⟩)/\Fr NoT W w':=λW hf=>by
  refine(Tryz.strconv_Itoa (c1n:Int) (by omega) (by omega) W ((h4.fr0 hf).tab HK.out)).mono ?_;rintro e w' ⟨rfl,j,os,rfl⟩;exact⟨rfl,zdY _ _ _⟩
 have SV:x.nm.size<=16:=HP.2.1;have XM:(Lib.itoa (c1n:Int)).length <=21:=Lib.itoa_length_le _ (by omega) (by omega);obtain⟨ib,TZ⟩:=nmq ((⟨(Lib.itoa (c1n:Int)).toArray⟩:ByteArray));have Zd:ib.size<=21:=by rw[TZ];simpa[ByteArray.size]using XM
 rw[<-TZ]at hit;have Fs:¬9223372036854775807 < x.nm.size+1:=by omega
 have Ft:¬9223372036854775807 < x.nm.size+1+ib.size:=by omega
 have Kj:¬9223372036854775807 < x.nm.size+1+ib.size+1:=by omega
 have kM:=hdq hit;have Ri:=hdq (aiq TZ (aiq NW (aiq SV Zd)));have Rf:=hdq F3;have LU:=hdq G7;have Hy:=hdq Gd;have qJ:=hdq (show Fr (λi=>i=K.P) w1 w4 from(Gd.any.trans GQ).trans GB.any);have KO:=hdq GX;have qK:=hdq kb4;have H4:=hdq h4;have UQ:=hdq (aiq RV RW);have uq:=hdq hX;have HZ:=hdq (show w1.heap.size<=X/\X < w4.heap.size from⟨by rw[hX];exact Gd.size,ER⟩);clear h2 h3 h4 FE F3 G7 Gd GQ GB L9 GX kb4 RV RW hit TZ SV Zd XM NW hX;go_wp2_with fail;rw[<-uq.out,<-Rf.out,<-LU.out];clear g1 f1 gl;refine zad (λW'=>X < W'.heap.size/\K.P < W'.heap.size/\W'.cell? ⟨X,0,none⟩=some (.string x.nm)/\W'.cell? ⟨K.P,1,none⟩=some (.int .i64 c1n)) (λi=>decide (i < 10)) (by kernel_rfl) ⟨ER,E0,q0,q1⟩ (λhHeld=>?_);refine zaa 0 ?_;simp only[putsL];refine zaa 3 ?_;simp only[putsL];refine zaa 4 ?_;simp only[putsL];refine zaa 5 ?_;simp only[putsL];refine zaz 1 hHeld ?_;simp only[putsL];refine zaz 6 hHeld ?_;simp only[putsL];refine zaa 2 ?_;simp only[putsL];refine zab 7 rfl (by kernel_rfl) (λKK hK=>?_);go_simp;go_at_call 39;refine(kM _ ((Fr.refl NoT w4).drew)).mono ?_;rintro _ w5 ⟨rfl,Hs⟩;have Hx:=hdq (((Fr.refl NoT w4).drew).trans Hs);clear hHeld Hs;have hHeld:X < w5.heap.size/\K.P < w5.heap.size/\w5.cell? ⟨X,0,none⟩=some (.string x.nm)/\w5.cell? ⟨K.P,1,none⟩=some (.int .i64 c1n):=⟨ltq ER Hx.size,ltq E0 Hx.size,(Hx.cell (p:=⟨X,0,none⟩) ER id).trans q0,(Hx.cell (p:=⟨K.P,1,none⟩) E0 id).trans q1⟩;dsimp only;refine hK _ _ (λ_ _=>hHeld) ?_;clear hK;try simp only[putsL]
 refine zaa 8 ?_;simp only[putsL];refine zaa 9 ?_;simp only[putsL];refine zab 10 rfl (by kernel_rfl) (λKK hK=>?_);go_simp;refine hK _ _ (λh=>absurd h (by decide)) ?_;clear hK KK;try simp only[putsL]
 refine zai (by kernel_rfl) ?_;obtain⟨jd,je⟩:=nmq (x.nm++{data:= #[46]}++ib++{data:= #[46]});rw[<-je];have Vg:∀y,jd++y=parN x.nm (s.calls+1) y:=λy=>by rw[je,Ri.1,Ri.2.1];rfl
 have DD:jd.size<=39:=by rw[je];simp only[ByteArray.size_append];have h1:=Ri.2.2.1;have h2:=Ri.2.2.2;show x.nm.size+1+ib.size+1<=39;omega
 have k5:=qK.fr0 Hx.out;have b6:=k5.cell 6;have bl6:=k5.lt;simp only[getsL]at b6;obtain⟨w6,GM⟩:=nmq (w5.alloc (.cells #[.int .u8 1,.string ⟨#[]⟩,.slice none 0 0,.slice none 0 0,.slice none 0 0,.slice none 0 0,.int .i64 at_] 39));obtain⟨L,hL⟩:=nmq w5.heap.size;have Fk:Fr NoT w5 w6:=by rw[GM];exact(Fr.refl _ _).alloc _
 have qL:CaL K v w X L T:=⟨HL.2.2.2.2.2.2,⟨by have:=HZ.out;have:=HL.2.2.2.2.2.1;omega,by have:=HZ.out;have:=Hx.size;omega⟩,HH.1.fr.size,HH.2.2.2.2.1,HH.1.vlt⟩;have FW:Fr (λi=>i=K.P) w1 w6:=(qJ.trans Hx.any).trans Fk.any;have hQ:CaQ K v w X L #[.string x.nm,.slice pA pl pc,.slice pB bl pe,.int .i64 x.at_] #[.int .u8 kst,.string nm,.slice A2 ml c2,V3,V4,V5,.int .i64 at_] n fs ts Af At cf ct T w6 ⟨s.calls+1,s.vars,s.many⟩ v (.slice (some ⟨L,0,none⟩) 1 1) (.slice none 0 0) (.slice none 0 0) [zeH at_] [.int .u8 1,.string ⟨#[]⟩,.slice none 0 0,.slice none 0 0,.slice none 0 0,.slice none 0 0,.int .i64 at_] [] []:=by
  have Q3:=qL.x;refine⟨⟨(Hn.any:Fr (RT K v) w w1).trans (FW.mono λ_ _ e=> .inl e),SpotP.refl _ _,λi hi=> .inl (HH.1.vlt i hi),(KO.fr0 Hx.out).fr0 Fk,k5.fr0 Fk,HH.2.2.2.1.keep (λ_ h=>h) (((Hn.any:Fr (λi=>i=K.P) w w1).trans FW).same λb hb=>⟨(HH.2.2.2.2.1 b hb).1,(HH.2.2.2.2.1 b hb).2.1⟩),by rw[hL];exact Fk.size⟩,(H4.fr0 Hx.out).fr0 Fk,⟨?_,?_,?_,λb hb e=>?_⟩,TxRow.nil _ _,TxRow.nil _ _,λi hi=>by simp[Value.ownBlock]at hi,λi hi=>by simp[Value.ownBlock]at hi⟩
  ·rw[GM,hL];exact World.ownsRow_lit (base:=w5.heap.size) (size:=7) w5 _ 1 (lrq _) (by decide) rfl
  ·exact⟨_, [],by simp,zht Lp.out,rfl⟩
  ·intro u hu;simp only[List.mem_cons,List.not_mem_nil,or_false]at hu;rcases hu with rfl|rfl|rfl|rfl|rfl|rfl|rfl<;>rfl
  ·have hb:L=b:=by simpa[Value.ownBlock]using hb
   rcases e with e|e|e
   ·have:=HH.1.vlt b e;omega
   ·simp[Value.ownBlock]at e
   ·simp[Value.ownBlock]at e
 have TY:=hdq (show CaN K x s n args at_ v w X L #[.string x.nm,.slice pA pl pc,.slice pB bl pe,.int .i64 x.at_] #[.int .u8 kst,.string nm,.slice A2 ml c2,V3,V4,V5,.int .i64 at_] fs ts Af At cf ct T w6 (.slice (some ⟨L,0,none⟩) 1 1) (.slice none 0 0) (.slice none 0 0) 0 from⟨v,_,_,by simpa using hQ,rfl,rfl⟩);have Ke:=hdq qL;have Lx:=hdq GM;have kE:=hdq hL;have qM:=hdq Vg;have kL:pl<=4:=by rw[HL.2.1];exact HP.1
 clear hHeld q0 q1 ER E0 Fs Ft Kj je Vg k5 GM hL Fk qL FW hQ JH KM;go_wp2_with fail;rw[<-kE.out,<-Lx.out];clear b6 bl6;go_loopw [11,12,13,14] (λvo vf vt i wr=>∃k:Nat,k<=pl/\i= .int .i64 k/\Hid (CaN K x s n args at_ v w X L #[.string x.nm,.slice pA pl pc,.slice pB bl pe,.int .i64 x.at_] #[.int .u8 kst,.string nm,.slice A2 ml c2,V3,V4,V5,.int .i64 at_] fs ts Af At cf ct T wr vo vf vt k)) (λ_ _ _ i _=>pl - (intOf i).toNat);case atStart=>exact⟨0,Nat.zero_le _,rfl,TY⟩
 case round=>
  clear TY;obtain⟨kk,FR,rfl,Uk⟩:=hrel;by_cases Hr:kk < pl
  ·
   obtain⟨vk,acc,cs,hq,heq,Jh⟩:=Uk.out;obtain⟨pv,pr,hd,JT⟩:=zac (show kk < x.params.length from by rw[<-HL.2.1];exact Hr);have Nx:x.params.length=args.len:=HH.2.2.2.2.2.2.1;obtain⟨e0,e1,e2,e3,e4,er,he⟩:=Exs.drop_cons (show kk < args.len from by rw[<-Nx,<-HL.2.1];exact Hr);obtain⟨pb,po,rfl,Hd⟩:=UQ.1.2.2 (by rw[<-HL.2.1];omega);have Hb:=Hd.drop kk;rw[hd]at Hb;obtain⟨⟨Hf,_,r1,c00,c01⟩,_⟩:=Hb;have Km:=HK.low _ Hf;have c0:=(hq.st_.fr.cell (p:=⟨pb,po+kk*2,none⟩) Km id).trans c00;have c1:=(hq.st_.fr.cell (p:=⟨pb,po+kk*2+1,none⟩) Km id).trans c01;have qN:=hdq (aiq Km c00);have P0:=hdq (show(∀i,vk.ownBlock=some i->i < wr.heap.size)/\(∀i,u11.ownBlock=some i->i < wr.heap.size)/\(∀i,u12.ownBlock=some i->i < wr.heap.size)/\(∀i,u13.ownBlock=some i->i < wr.heap.size)/\w.heap.size<=wr.heap.size/\L<=wr.heap.size from⟨hq.st_.vlt,λi hi=>(zaf hq.out.row hi).2,λi hi=>(zaf hq.nf hi).2,λi hi=>(zaf hq.nt hi).2,hq.fs_.fr.size,hq.fs_.sz⟩);have Gf:pb < wr.heap.size:=ltq (HK.low _ Hf) hq.st_.fr.size;have Hl:(kk:Int) < (pl:Int):=by omega
   have Fb:(0:Int)<=(kk:Int):=by omega
   obtain⟨nfs,QZ⟩:=nmq ((x.params.take kk).map Va.nm);obtain⟨nts,Q0⟩:=nmq ((x.params.take kk).map λp=>parN x.nm (s.calls+1) p.nm);obtain⟨vs,Ql⟩:=nmq (s.vars++(x.params.take kk).map (zgS x.nm (s.calls+1)));rw[<-QZ,<-Q0,<-Ql]at hq;have MD:nfs.length<=4/\nts.length<=4/\vs.length+1<=36/\acc.length<=5:=by
    have h2:=HH.2.2.1;unfold zaT at h2;simp only[Bool.or_eq_false_iff,decide_eq_false_iff_not]at h2;have h3:(x.params.take kk).length <=kk:=by rw[List.length_take];omega
    rw[QZ,Q0,Ql];simp only[List.length_map,List.length_append];refine⟨?_,?_,?_,?_⟩<;>omega
   have Xd:=HP.2.2.1 pv (List.mem_of_mem_drop (i:=kk) (by rw[hd];simp));obtain⟨nw,KI⟩:=nmq (jd++pv.nm);have R2:nw=parN x.nm (s.calls+1) pv.nm:=by rw[KI,qM.out]
   have qO:¬9223372036854775807 < jd.size+pv.nm.size:=by have:=Xd.1;omega
   obtain⟨w7,M4⟩:=nmq ((wr.alloc (.cells #[.string nw,.int .i64 pv.at_] 43)).drew );have Gw:Fr NoT wr w7:=by rw[M4];exact((Fr.refl _ _).alloc _).drew
   have GK:Bk w7 wr.heap.size 43 #[.string nw,.int .i64 pv.at_]:=by rw[M4];exact(Bk.new _ _ _).fr0 ((Fr.refl _ _).drew)
   have yU:=hq.fr0 Ke.out Gw;have kx:=hq.fs_.xb;have x1:=kx.cell 1;have EZ:=kx.lt;simp only[getsL]at x1;have HQ:=hdq yU;have HE:=hdq (aiq heq (aiq Jh (aiq hd (aiq he (aiq QZ (aiq Q0 Ql))))));have HN:=hdq (aiq R2 (aiq Xd r1));have Pk:=hdq GK;have TD:=hdq (aiq M4 KI);have JG:=hdq Gw;clear hq heq Jh hd JT Nx he Hd Hf r1 c00 c01 Km QZ Q0 Ql Xd KI R2 M4 Gw GK yU kx Uk;go_wp2_with fail
   go_region
   rw[<-TD.2,<-TD.1];clear x1 EZ c0 c1 Gf qO;obtain⟨csv,J9,Md⟩:=HQ.st_.row;have u0:=Pk.cell 0;have u1:=Pk.cell 1;have ul0:=Pk.lt;have u2:=HQ.st_.bk.cell 2;have uf2:=HQ.st_.bk.frozen 2;have E1:=HQ.st_.bk.lt;simp only[getsL]at u0 u1 u2;obtain⟨iV,UZ,U0,U1,U2⟩:=info_parts zfI;have Nt:=hdq (aiq UZ (aiq U0 (aiq U1 U2)));have KS:=hdq (aiq J9 Md);clear J9 Md UZ U0 U1 U2;go_wp2_with fail;refine zad (λW'=>K.P < W'.heap.size/\wr.heap.size < W'.heap.size/\W'.cell? ⟨K.P,2,none⟩=some vk/\W'.cell? ⟨wr.heap.size,0,none⟩=some (.string nw)/\W'.cell? ⟨wr.heap.size,1,none⟩=some (.int .i64 pv.at_)) (λi=>decide (i < 8)) (by kernel_rfl) ⟨E1,ul0,u2,u0,u1⟩ (λhHeld=>?_);refine zaa 0 ?_;simp only[putsL];refine zaa 1 ?_;simp only[putsL];refine zaa 2 ?_;simp only[putsL];refine zaa 3 ?_;simp only[putsL];refine zaz 4 hHeld ?_;simp only[putsL];refine zaz 5 hHeld ?_;simp only[putsL];refine zab 6 rfl (by kernel_rfl) (λKK hK=>?_);go_simp;obtain⟨w8,GG⟩:=nmq ((w7.alloc (.cells #[.string nw,.int .i64 pv.at_] 43)).drew );rw[<-GG];have Gj:Fr NoT w7 w8:=by rw[GG];exact((Fr.refl _ _).alloc _).drew
   have Hk:Bk w8 w7.heap.size 43 ([.string nw,.int .i64 pv.at_]:List Value).toArray :=by rw[GG];exact(Bk.new _ _ _).fr0 ((Fr.refl _ _).drew)
   have FH:K.P < w8.heap.size/\wr.heap.size < w8.heap.size/\w8.cell? ⟨K.P,2,none⟩=some vk/\w8.cell? ⟨wr.heap.size,0,none⟩=some (.string nw)/\w8.cell? ⟨wr.heap.size,1,none⟩=some (.int .i64 pv.at_):=⟨ltq E1 Gj.size,ltq ul0 Gj.size,(Gj.cell (p:=⟨K.P,2,none⟩) E1 id).trans u2,(Gj.cell (p:=⟨wr.heap.size,0,none⟩) ul0 id).trans u0,(Gj.cell (p:=⟨wr.heap.size,1,none⟩) ul0 id).trans u1⟩;have Gt:=zag KS.1 Gj λ_ _=>id;have Xe:=hdq (HQ.fr0 Ke.out Gj);have GD:=hdq Gj;have Kf:=hdq Hk;have Fm:=hdq Gt;clear GG Gj Hk Gt hHeld;try dsimp only
   refine hK _ _ (λ_ _=>FH) ?_;clear hK KK;try simp only[putsL]
   refine zab 7 rfl (by kernel_rfl) (λKK hK=>?_);refine step_append_lies _ (by rfl) _ _ _ (by rfl) K.W0.heap.size 43 iV (.agg #[.string ⟨#[]⟩,.int .i64 0]) 2 24 Tryz.underlying22 Nt.1 Nt.2.1 Nt.2.2.1 Nt.2.2.2 rfl (by decide) vk vs.length csv (by rfl) Fm.out
    ⟨w7.heap.size,0,none⟩ 1 1 _ (by rfl) (by rfl) Kf.newsL (by simp[Value.oneCell']) (by omega) ?c63 ?cby ?cba _ rfl ?_
   case c63=>have:=MD.2.2.1;unfold maxLen;omega
   case cby=>have:=MD.2.2.1;omega
   case cba=>have:=Xe.st_.fr.size;omega
   intro gg cap w9 Hg Hh GP L5;have Ns:(Value.slice (some ⟨gg,0,none⟩) (vs.length+1) cap).ownBlock =vk.ownBlock\/(Value.slice (some ⟨gg,0,none⟩) (vs.length+1) cap).ownBlock =some w8.heap.size:=by
    rcases GP with e|e
    ·exact .inl e.symm
    ·exact .inr (by rw[e];rfl)
   have yV:=Xe.push Ke.out (x:=⟨nw,pv.at_⟩) KS.2.any HN.2.2 MD.2.2.1 Hg Hh Ns;have PS:some K.P≠vk.ownBlock:=λe=>Xe.st_.ne e.symm;have f9:=(Hh.frozen_far ⟨K.P,2,none⟩ Xe.st_.bk.lt PS).trans (Xe.st_.bk.frozen 2);have q9:=(Hh.cell_far ⟨K.P,2,none⟩ Xe.st_.bk.lt PS).trans FH.2.2.1;have l9:K.P < w9.heap.size:=ltq Xe.st_.bk.lt Hh.size;have PT:some wr.heap.size≠vk.ownBlock:=λe=>by
    have:=P0.1 _ e.symm;omega
   have KJ:K.P < w9.heap.size/\wr.heap.size < w9.heap.size/\w9.cell? ⟨K.P,2,none⟩=some vk/\w9.cell? ⟨wr.heap.size,0,none⟩=some (.string nw)/\w9.cell? ⟨wr.heap.size,1,none⟩=some (.int .i64 pv.at_):=⟨l9,ltq FH.2.1 Hh.size,q9,(Hh.cell_far ⟨wr.heap.size,0,none⟩ FH.2.1 PT).trans FH.2.2.2.1,(Hh.cell_far ⟨wr.heap.size,1,none⟩ FH.2.1 PT).trans FH.2.2.2.2⟩;have k9:=(Pk.fr0 GD.out).fr (Fr.grown (T:=λi=>vk.ownBlock=some i) Hh λg e _=>e) (λe=>PT e.symm);have XX:=hdq yV;have LW:=hdq k9;clear Ns Hg Hh GP PS PT FH yV k9;try dsimp only
   refine hK _ _ (λ_ _=>KJ) ?_;clear hK KK;try simp only[putsL]
   refine zab 8 rfl (by kernel_rfl) (λKK hK=>?_);go_simp;refine hK _ _ (λh=>absurd h (by decide)) ?_;clear hK KK;try simp only[putsL]
   refine zab 9 rfl (by kernel_rfl) (λKK hK=>?_);go_simp;refine hK _ _ (λh=>absurd h (by decide)) ?_;clear hK KK;try simp only[putsL]
   refine zab 10 rfl (by kernel_rfl) (λKK hK=>?_);go_simp;refine hK _ _ (λh=>absurd h (by decide)) ?_;clear hK KK;try simp only[putsL]
   refine zai (by kernel_rfl) ?_;clear KJ f9 q9 l9 L5 u0 u1 u2 ul0 uf2 E1;obtain⟨vn,Ns⟩:=nmq (Value.slice (some ⟨gg,0,none⟩) (vs.length+1) cap);obtain⟨DI,Me⟩:=nmq (w9.setCell ⟨K.P,2,none⟩ vn);rw[<-Ns]at XX ⊢;rw[<-Me]at XX ⊢;have yW:K.P≠wr.heap.size:=λe=>by have:=P0.2.2.2.2.1;have:=Ke.p;omega
   have EJ:Bk DI wr.heap.size 43 #[.string nw,.int .i64 pv.at_]:=by rw[Me];exact LW.fr (T:=λi=>i=K.P) (Fr.own (Fr.refl _ _) _ _) (λe=>yW e.symm)
   clear Ns Me yW;have kx:=XX.fs_.xb;have x1:=kx.cell 1;have EZ:=kx.lt;have c0:=(XX.st_.fr.cell (p:=⟨pb,po+kk*2,none⟩) qN.1 id).trans qN.2;have Gf:pb < DI.heap.size:=ltq qN.1 XX.st_.fr.size;simp only[getsL]at x1;obtain⟨DO,Nh⟩:=nmq (DI.alloc (.cells #[.string pv.nm] 9));have FC:Fr NoT DI DO:=by rw[Nh];exact(Fr.refl _ _).alloc _
   have Sm:Bk DO DI.heap.size 9 ([.string pv.nm]:List Value).toArray :=by rw[Nh];exact Bk.new _ _ _
   have Xf:=hdq (XX.fr0 Ke.out FC);have QN:=hdq (EJ.fr0 FC);have Np:=hdq Sm;have qP:=hdq Nh;obtain⟨iS,Ym,Yn,Yo,Hf⟩:=info_parts zmZ;have Vh:=hdq (aiq Ym (aiq Yn (aiq Yo Hf)));have ZW:L<=DO.heap.size:=Xf.fs_.sz;clear kx FC Sm Nh Ym Yn Yo Hf EJ;go_wp2_with (at_builtin;rw[<-qP.out];refine zat _ rfl _ _ 162 rfl L 9 iS (.string ⟨#[]⟩) 1 16 Tryz.underlying162 Vh.1 Vh.2.1 Vh.2.2.1 Vh.2.2.2 rfl (by decide) u12 nfs.length _ rfl Xf.nf ⟨DI.heap.size,0,none⟩ 1 1 _ rfl rfl Np.newsL ?c2 ?c63 ?cby ZW ?_);case c2=>first|rfl|(intro u hu;simp only[List.mem_cons,List.not_mem_nil,or_false]at hu;rw[hu];rfl)
   case c63=>have:=MD.1;unfold maxLen;omega
   case cby=>have:=MD.1;omega
   intro vf2 DN SO Xg Jb;have qQ:=hdq (Xf.name Ke.out SO Xg Jb);have k12:Bk DN wr.heap.size 43 #[.string nw,.int .i64 pv.at_]:=QN.fr (T:=λi=>u12.ownBlock=some i) (Fr.grown Xg λg e _=>e) (λe=>by have:=P0.2.2.1 _ e;omega);clear SO Xg Jb x1 EZ c0 Gf ZW;have z0:=k12.cell 0;have zl0:=k12.lt;simp only[getsL]at z0;obtain⟨DQ,Ul⟩:=nmq (DN.alloc (.cells #[.string nw] 9));have Jx:Fr NoT DN DQ:=by rw[Ul];exact(Fr.refl _ _).alloc _
   have ZX:Bk DQ DN.heap.size 9 ([.string nw]:List Value).toArray :=by rw[Ul];exact Bk.new _ _ _
   have Xh:=hdq (qQ.fr0 Ke.out Jx);have WO:=hdq (k12.fr0 Jx);have S5:=hdq ZX;have qR:=hdq Ul;have ZY:L<=DQ.heap.size:=Xh.fs_.sz;clear Jx ZX Ul k12;go_wp2_with (at_builtin;rw[<-qR.out];refine zat _ rfl _ _ 162 rfl L 9 iS (.string ⟨#[]⟩) 1 16 Tryz.underlying162 Vh.1 Vh.2.1 Vh.2.2.1 Vh.2.2.2 rfl (by decide) u13 nts.length _ rfl Xh.nt ⟨DN.heap.size,0,none⟩ 1 1 _ rfl rfl S5.newsL ?c2 ?c63 ?cby ZY ?_);case c2=>first|rfl|(intro u hu;simp only[List.mem_cons,List.not_mem_nil,or_false]at hu;rw[hu];rfl)
   case c63=>have:=MD.2.1;unfold maxLen;omega
   case cby=>have:=MD.2.1;omega
   intro vt2 DY SP Xi Vi;have Mu:=hdq (Xh.new_ Ke.out SP Xi Vi);have k14:Bk DY wr.heap.size 43 #[.string nw,.int .i64 pv.at_]:=WO.fr (T:=λi=>u13.ownBlock=some i) (Fr.grown Xi λg e _=>e) (λe=>by have:=P0.2.2.2.1 _ e;omega);clear SP Xi Vi z0 zl0 ZY;obtain⟨ab,ao,rfl,T1⟩:=HH.2.2.2.2.2.2.2.2.2 (by rw[<-HH.2.2.2.2.2.2.1,<-HL.2.1];omega);have KT:=(ExR.keep (Mu.st_.fr.same λi hi=>⟨HK.low i hi,id⟩) T1).drop kk;rw[HE.2.2.2.1]at KT;have Rv:ml<=c2:=by rw[HL.1];exact HH.2.2.2.2.2.2.2.1
   have JK:kk < ml:=by have h1:=HH.2.2.2.2.2.2.1;have h2:=HL.1;have h3:=HL.2.1;omega
   have Hw:0+1<=c2 - kk:=by omega
   have GX:c2 - kk<=9223372036854775807:=by have h1:=HH.2.2.2.2.2.2.2.2.1.1;omega
   have Mv:SlR (λb o=>ExR DY K.S False (.cons e0 e1 e2 e3 e4 .nil) b o) (Exs.cons e0 e1 e2 e3 e4 .nil).len 64 (some ⟨ab,ao+kk*5,none⟩) (c2 - kk):=
    ⟨Hw,⟨GX,by simp[Exs.len]⟩,λ_=>⟨ab,ao+kk*5,rfl,KT.1,KT.2.1,trivial⟩⟩
   have ZZ:∀W,Fr NoT DY W->Calls Tryz.prog 95 #[.slice (some ⟨ab,ao+kk*5,none⟩) 1 (c2 - kk),.slice Af nf cf,.slice At nt ct] W λe w'=>∃A' c',e= .returned (.slice A' 1 c')/\SlR (λb o=>ExR w' (New W.heap.size w') True (zar n (.cons e0 e1 e2 e3 e4 .nil)) b o) 1 64 A' c'/\Fr NoT W w':=λW hf=>by
    have h:=zck (.cons e0 e1 e2 e3 e4 .nil) n W K.S False (some ⟨ab,ao+kk*5,none⟩) (c2 - kk) fs ts Af At cf ct T (λi hi=>ltq (ltq (HK.low i hi) Mu.st_.fr.size) hf.size) (λb hb=>by have h1:=(Ke.nb b hb).1;have h2:=Mu.fs_.fr.size;have h3:=hf.size;omega) (Mu.fs_.nms.keep (λ_ h=>h) (hf.same λb hb=>⟨by have h1:=(Ke.nb b hb).1;have h2:=Mu.fs_.fr.size;omega,id⟩)) (Mv.imp λ_ _ h=>ExR.keep (hf.same λi hi=>⟨ltq (HK.low i hi) Mu.st_.fr.size,id⟩) h);rw[<-HL.2.2.2.1,<-HL.2.2.2.2.1]at h;refine h.mono ?_;rintro _ w' ⟨A',c',rfl,h1,h2⟩;rw[zaC]at h1 ⊢;exact⟨A',c',rfl,h1,h2⟩
   have kb:=Mu.fs_.box;have y2:=kb.cell 2;have y6:=kb.cell 6;have yl:=kb.lt;have z0:=k14.cell 0;have zl0:=k14.lt;simp only[getsL]at y2 y6 z0;have qS:=hdq ZZ;obtain⟨i0,RZ,Fe,Lh,R0⟩:=info_parts zej;have HI:=hdq (aiq RZ (aiq Fe (aiq Lh R0)));have Hm:(0:Int)<=(kk:Int)+1:=by omega
   have Fy:(kk:Int)+1<=(c2:Int):=by omega
   have GK:((kk:Int)+1).toNat =kk+1:=by omega
   have Hk:¬c2=kk:=by omega
   have kP:IntKind.i64.wrap ((kk:Int)+1)=(kk:Int)+1:=IntWalk.i64_in _ (by omega);have LR:kk<=ml:=by omega
   clear Hw GX JK Mv T1 KT ZZ kb k14 RZ Fe Lh R0;go_wp2_with fail;refine zad (λW'=>w.heap.size < W'.heap.size/\wr.heap.size < W'.heap.size/\W'.cell? ⟨w.heap.size,2,none⟩=some (.slice (some ⟨ab,ao,none⟩) ml c2)/\W'.cell? ⟨w.heap.size,6,none⟩=some (.int .i64 at_)/\W'.cell? ⟨wr.heap.size,0,none⟩=some (.string nw)) (λi=>decide (i < 17)) (by kernel_rfl) ⟨yl,zl0,y2,y6,z0⟩ (λhHeld=>?_);refine zaa 0 ?_;simp only[putsL];refine zaa 1 ?_;simp only[putsL];refine zaa 3 ?_;simp only[putsL];refine zaa 5 ?_;simp only[putsL];refine zaa 6 ?_;simp only[putsL];refine zaa 7 ?_;simp only[putsL];refine zaa 9 ?_;simp only[putsL];refine zaa 10 ?_;simp only[putsL];refine zaa 12 ?_;simp only[putsL];refine zaz 2 hHeld ?_;simp only[putsL];refine zaz 4 hHeld ?_;simp only[putsL];refine zaz 13 hHeld ?_;simp only[putsL];refine zaa 8 ?_;simp only[putsL];refine zab 11 rfl (by kernel_rfl) (λKK hK=>?_);go_simp;go_at_call 95;refine(qS _ ((Fr.refl NoT DY).drew)).mono ?_;rintro _ DR ⟨A',c',rfl,Vj,Vk⟩;have Fq:Fr NoT DY DR:=((Fr.refl NoT DY).drew).trans Vk;have Xj:w.heap.size < DR.heap.size/\wr.heap.size < DR.heap.size/\DR.cell? ⟨w.heap.size,2,none⟩=some (.slice (some ⟨ab,ao,none⟩) ml c2)/\DR.cell? ⟨w.heap.size,6,none⟩=some (.int .i64 at_)/\DR.cell? ⟨wr.heap.size,0,none⟩=some (.string nw):=⟨ltq yl Fq.size,ltq zl0 Fq.size,(Fq.cell (p:=⟨w.heap.size,2,none⟩) yl id).trans y2,(Fq.cell (p:=⟨w.heap.size,6,none⟩) yl id).trans y6,(Fq.cell (p:=⟨wr.heap.size,0,none⟩) zl0 id).trans z0⟩;have qT:=hdq (Mu.fr0 Ke.out Fq)
   have T8:=hdq Fq;have Z0:=hdq Vj;clear hHeld Vj Fq Vk;try dsimp only
   refine hK _ _ (λ_ _=>Xj) ?_;clear hK KK;have hHeld:=Xj;clear Xj;try simp only[putsL]
   refine zaa 14 ?_;simp only[putsL];refine zab 15 rfl (by kernel_rfl) (λKK hK=>?_);go_simp;obtain⟨Ee,Um⟩:=nmq (DR.alloc (.cells #[.int .u8 2,.string nw,.slice A' 1 c',.slice none 0 0,.slice none 0 0,.slice none 0 0,.int .i64 at_] 39));rw[<-Um];have Jn:Fr NoT DR Ee:=by rw[Um];exact(Fr.refl _ _).alloc _
   have Z1:Bk Ee DR.heap.size 39 ([.int .u8 2,.string nw,.slice A' 1 c',.slice none 0 0,.slice none 0 0,.slice none 0 0,.int .i64 at_]:List Value).toArray :=by rw[Um];exact Bk.new _ _ _
   have MO:w.heap.size < Ee.heap.size/\wr.heap.size < Ee.heap.size/\Ee.cell? ⟨w.heap.size,2,none⟩=some (.slice (some ⟨ab,ao,none⟩) ml c2)/\Ee.cell? ⟨w.heap.size,6,none⟩=some (.int .i64 at_)/\Ee.cell? ⟨wr.heap.size,0,none⟩=some (.string nw):=⟨ltq hHeld.1 Jn.size,ltq hHeld.2.1 Jn.size,(Jn.cell (p:=⟨w.heap.size,2,none⟩) hHeld.1 id).trans hHeld.2.2.1,(Jn.cell (p:=⟨w.heap.size,6,none⟩) hHeld.1 id).trans hHeld.2.2.2.1,(Jn.cell (p:=⟨wr.heap.size,0,none⟩) hHeld.2.1 id).trans hHeld.2.2.2.2⟩;have Un:=hdq (qT.fr0 Ke.out Jn);have Z2:=hdq Jn;have V2:=hdq Z1;clear Um Jn Z1 hHeld;try dsimp only
   refine hK _ _ (λ_ _=>MO) ?_;clear hK KK;try simp only[putsL]
   refine zab 16 rfl (by kernel_rfl) (λKK hK=>?_);refine step_append_lies _ (by rfl) _ _ _ (by rfl) L 39 i0 (.agg zdx) 7 128 Tryz.underlying25 HI.1 HI.2.1 HI.2.2.1 HI.2.2.2 rfl (by decide) u11 acc.length cs (by rfl) Un.out.out.row
    ⟨DR.heap.size,0,none⟩ 1 1 _ (by rfl) (by rfl) V2.newsL (by simp[Value.oneCell']) (by omega) ?d63 ?dby ?dba _ rfl ?_
   case d63=>have:=MD.2.2.2;unfold maxLen;omega
   case dby=>have:=MD.2.2.2;omega
   case dba=>exact Un.fs_.sz
   intro gg2 E2 w17 SQ JN Vl Z3;have KL:∀i,u11.ownBlock=some i->L<=i/\i < wr.heap.size:=λi hi=>⟨(zaf Un.out.out.row hi).1,P0.2.1 i hi⟩;have Z4:w.heap.size < w17.heap.size/\wr.heap.size < w17.heap.size/\w17.cell? ⟨w.heap.size,2,none⟩=some (.slice (some ⟨ab,ao,none⟩) ml c2)/\w17.cell? ⟨w.heap.size,6,none⟩=some (.int .i64 at_)/\w17.cell? ⟨wr.heap.size,0,none⟩=some (.string nw):=by
    have Gk:some w.heap.size≠u11.ownBlock:=λe=>by have h1:=KL _ e.symm;have h2:=Ke.x;omega
    have Gu:some wr.heap.size≠u11.ownBlock:=λe=>by have h1:=KL _ e.symm;omega
    exact⟨ltq MO.1 JN.size,ltq MO.2.1 JN.size,(JN.cell_far ⟨w.heap.size,2,none⟩ MO.1 Gk).trans MO.2.2.1,(JN.cell_far ⟨w.heap.size,6,none⟩ MO.1 Gk).trans MO.2.2.2.1,(JN.cell_far ⟨wr.heap.size,0,none⟩ MO.2.1 Gu).trans MO.2.2.2.2⟩
   have Z5:(Value.slice (some ⟨gg2,0,none⟩) (acc.length+1) E2).ownBlock =u11.ownBlock\/(Value.slice (some ⟨gg2,0,none⟩) (acc.length+1) E2).ownBlock =some Ee.heap.size:=by
    rcases Vl with e|e
    ·exact .inl e.symm
    ·exact .inr (by rw[e];rfl)
   have F8:Hid (CaN K x s n args at_ v w X L #[.string x.nm,.slice (some ⟨pb,po,none⟩) pl pc,.slice pB bl pe,.int .i64 x.at_] #[.int .u8 kst,.string nm,.slice (some ⟨ab,ao,none⟩) ml c2,V3,V4,V5,.int .i64 at_] fs ts Af At cf ct T w17 (.slice (some ⟨gg2,0,none⟩) (acc.length+1) E2) vf2 vt2 (kk+1)):=by
    refine hdq ?_;have NU:(zar n (.cons e0 e1 e2 e3 e4 .nil)).len =1:=by rw[zaC];rfl
    have Ge:One1 [.int .u8 2,.string nw,.slice A' 1 c',.slice none 0 0,.slice none 0 0,.slice none 0 0,.int .i64 at_]:=by
     intro u hu;simp only[List.mem_cons,List.not_mem_nil,or_false]at hu;rcases hu with rfl|rfl|rfl|rfl|rfl|rfl|rfl<;>rfl
    have Gh:wr.heap.size < DY.heap.size:=zl0;have Gn:=Z2.size;have WB:oneS Ee (λb=>L<=b/\b < Ee.heap.size/\u11.ownBlock≠some b/\¬CE vn vf2 vt2 b) (zfn nw n e0 e1 e2 e3 e4 at_) [.int .u8 2,.string nw,.slice A' 1 c',.slice none 0 0,.slice none 0 0,.slice none 0 0,.int .i64 at_]:=
     ⟨A',c',none,0,none,0,none,0,by rw[show(zfn nw n e0 e1 e2 e3 e4 at_).args.len =1 from NU];rfl,by simp[zfn,in8],Lp.out,by
      show SlR _ (zar n (.cons e0 e1 e2 e3 e4 .nil)).len 64 A' c'
      rw[NU];refine Z0.imp λ_ _ hx=>ExR.more (λi hi=>?_) (ExR.keep (Z2.same λi hi=>⟨hi.2,id⟩) hx);have DE:DY.heap.size<=i:=hi.1;have DF:i < DR.heap.size:=hi.2;refine⟨by have:=P0.2.2.2.2.2;omega,by omega,λe=>by have:=KL i e;omega,λe=>?_⟩;rcases e with e|e|e
      ·have:=Mu.st_.vlt i e;omega
      ·have:=(zaf Mu.nf e).2;omega
      ·have:=(zaf Mu.nt e).2;omega,slr0,slr0,slr0⟩
    have Z6:=Un.put Ke.out WB Ge SQ JN Z5;obtain⟨heq,Jh,hd,he,QZ,Q0,Ql⟩:=HE.out;have KI:=HN.1;rw[QZ,Q0,Ql,KI]at Z6;exact CaN.next hd he Z6 heq Jh
   clear SQ JN Vl Z3 KL Z5 MO;try dsimp only
   refine hK _ _ (λ_ _=>Z4) ?_;clear hK KK Z4;try simp only[putsL]
   refine zab 17 rfl (by kernel_rfl) (λKK hK=>?_);go_simp;refine hK _ _ (λh=>absurd h (by decide)) ?_;clear hK KK;try simp only[putsL]
   refine zai (by kernel_rfl) ?_;clear y2 y6 yl z0 zl0;go_wp2_with fail;go_roundw;case rel=>exact⟨kk+1,by omega,by go_num,F8⟩
   case measure=>simp[intOf];omega
  ·
   obtain⟨vk,acc,cs,hq,heq,Jh⟩:=Uk.out;have Hl:¬(kk:Int) < (pl:Int):=by omega
   have xT:kk=pl:=by omega
   have Qu:x.params.take kk=x.params:=List.take_of_length_le (by rw[<-HL.2.1];omega);have XO:x.params.drop kk= []:=List.drop_eq_nil_iff.2 (by rw[<-HL.2.1];omega);rw[Qu]at hq;rw[XO]at heq;obtain⟨vs,Ql⟩:=nmq (s.vars++x.params.map (zgS x.nm (s.calls+1)));rw[<-Ql]at hq;obtain⟨Af2,cf2,At2,ct2,Xk,Xl,Z7⟩:=NmR.built x.nm (s.calls+1) x.params hq.nf hq.nt;rw[List.length_map,<-HL.2.1]at Xk Xl;obtain⟨Ao,co,Z8,_⟩:=zba hq.out.row;obtain⟨al,Uo⟩:=nmq acc.length;rw[<-Uo]at Z8;have Ja:s.many<=256:=by
    have h2:=HH.2.2.1;unfold zaT at h2;simp only[Bool.or_eq_false_iff,decide_eq_false_iff_not]at h2;omega
   have QG:al=pl+1:=by omega
   have K0:=hdq (zgh K wr ⟨s.calls+1,vs,s.many⟩ vk al hq.st_ ⟨by show s.many+al<=261;omega,by show s.calls+1<=s.many+al+1;have:=HH.2.1;omega⟩);have kx:=hq.fs_.xb;have yX:X≠K.P:=λe=>by have:=Ke.x;have:=Ke.p;omega
   have ZN:∀i,(Value.slice Af2 pl cf2).ownBlock =some i->L<=i/\i < wr.heap.size:=λi hi=>zaf hq.nf (Xk▸hi);have LT:∀i,(Value.slice At2 pl ct2).ownBlock =some i->L<=i/\i < wr.heap.size:=λi hi=>zaf hq.nt (Xl▸hi);subst Xk Xl Z8;have HQ:=hdq hq;have F4:=hdq Z7;have HE:=hdq (aiq heq (aiq Jh (aiq Ql (aiq Uo (aiq Ja (aiq QG (aiq ZN LT)))))));have YS:=hdq kx;have ur:=hdq yX;have x1:=kx.cell 1;have EZ:=kx.lt;simp only[getsL]at x1;clear hq heq Jh Ql Z7 Uo Ja QG kx yX ZN LT Uk Qu XO;go_wp2_with fail;clear x1 EZ;refine K0.mono ?_;rintro _ EM ⟨rfl,XN,ML⟩;have kx20:=YS.fr ML ur.out;have x2:=kx20.cell 2;have xl2:=kx20.lt;simp only[getsL]at x2;have ut:=Ke.p;have uu:=Ke.x;have Vm:=F4.keep (λ_ h=>h) (ML.same λb hb=>⟨by
    rcases hb with hb|hb
    ·exact(HE.2.2.2.2.2.2.1 b hb).2
    ·exact(HE.2.2.2.2.2.2.2 b hb).2,λe=>by
    have e:b=K.P:=e;rcases hb with hb|hb
    ·have:=HE.2.2.2.2.2.2.1 b hb;omega
    ·have:=HE.2.2.2.2.2.2.2 b hb;omega⟩)
   have Vn:RB K vk EM (λb=>(Value.slice Af2 pl cf2).ownBlock =some b\/(Value.slice At2 pl ct2).ownBlock =some b):=λb hb=>by
    have hz:=ML.size;rcases hb with hb|hb
    ·have h1:=HE.2.2.2.2.2.2.1 b hb;exact⟨by omega,by omega,(HQ.ne1 b hb).2⟩
    ·have h1:=HE.2.2.2.2.2.2.2 b hb;exact⟨by omega,by omega,HQ.ne2 b hb⟩
   have KV:=Ye EM ⟨s.calls+1,vs,s.many+al⟩ vk (ownN x.nm (s.calls+1) x.params λ_=>none) pB pe _ _ Af2 At2 cf2 ct2 _ XN (by show s.calls+1<=s.many+al;have:=HH.2.1;have:=HE.2.2.2.2.2.1;omega) Vm Vn (zhB _ _ _ _ (λz hz=>(HP.2.2.1 z hz).2.2) rfl) UQ.2;rw[List.length_map,List.length_map,<-HL.2.2.1,<-HL.2.1]at KV;have KV:=hdq KV;have Mf:=hdq ML;clear kx20 Vm Vn XN ML ut uu;go_wp2_with fail;refine KV.mono ?_;rintro _ w21 ⟨v2,vo2,D7,Ez,rfl,QH,NY,J4,Lc,Ka,Mg,Nb⟩;have Zl:K.P < L:=by have:=Ke.p;have:=Ke.x;omega
   have JR:=((HQ.out.out.toRow (v:=vk) λb hb=> .inl hb).keep (Mf.mono λ_ _ e=> .inl e) (SpotP.refl _ _) Zl).keep Lc Ka Zl;have Sa:L<=EM.heap.size:=leq9 HQ.fs_.sz Mf.size;have WK:L<=w21.heap.size:=leq9 Sa Lc.size;have Fx:∀i,(Value.slice Ao al co).ownBlock =some i->i < EM.heap.size:=λi hi=>ltq (zaf HQ.out.out.row hi).2 Mf.size;have Sb:∀i,v2.ownBlock=some i->i < w21.heap.size:=λi hi=>by obtain⟨c9,h9,_⟩:=QH.row;exact(zaf h9 hi).2
   have Sc:acc.length+D7.length<=1000000:=by have h8:=HE.2.2.2.1;have h7:=HE.2.2.2.2.2.1;have h9:=QH.most.1;simp only at Mg;omega
   have Nu:=hdq (aiq JR (aiq NY (aiq Fx Sb)));have kR:=hdq (aiq QH (aiq J4 (aiq Lc (aiq Ka (aiq Mg Nb)))));clear JR NY Fx Sb QH J4 Lc Ka Mg Nb x2 xl2;go_wp2_with (at_builtin;refine zcb rfl _ _ rfl rfl rfl Nu.1 Nu.2.1 Sa Nu.2.2.1 WK Sc Nu.2.2.2 ?_);intro vo3 w22 NZ Sd Se;have PV:=hdq (aiq NZ Sd);clear NZ Sd Se;go_wp2_with fail;go_ret;obtain⟨QH,J4,Lc,Ka,Mg,Nb⟩:=kR.out;obtain⟨heq,Jh,Ql,Uo,Ja,QG,ZN,LT⟩:=HE.out;have Q3:=Ke.x;have qI:=Ke.w0;have Zk:al=x.params.length+1:=by have h2:=HL.2.1;omega
   have GR:zcR K.procs stm nm args n at_ s=(Sts.app (zao acc) (stm x.body (ownN x.nm (s.calls+1) x.params λ_=>none) ⟨s.calls+1,vs,s.many+al⟩).1,(stm x.body (ownN x.nm (s.calls+1) x.params λ_=>none) ⟨s.calls+1,vs,s.many+al⟩).2):=by
    unfold zcR;rw[HH.2.2.2.2.2.1];have Ky:zao acc= .cons 1 ⟨#[]⟩ .nil .nil .nil .nil at_ (zby x.nm (s.calls+1) n at_ x.params args):=by
     rw[<-heq];cases hE:Exs.drop kk args<;>simp only[zby,zcj]
    have qU:vs=s.vars++x.params.map λv=>(⟨parN x.nm (s.calls+1) v.nm,v.at_⟩:Va):=Ql;simp only[Ky,qU,Zk]
   rw[GR];have Li:Fr (RT K v) w w22:=by
    have h1:=Fr.thenT HQ.fs_.fr (Mf.out) λi _ (e:i=K.P)=>(Or.inl e:RT K v i);have h2:=Fr.thenT h1 Lc λi hi e=>by
     rcases e with e|e
     ·exact Or.inl e
     ·rcases HQ.fs_.spot with k9|⟨g9,k9,FI⟩
      ·exact Or.inr (k9▸e)
      ·rw[k9]at e;have:=Option.some.inj e;omega
    exact Fr.thenT h2 PV.2 λi hi e=>by have:=(zaf Nu.1.row e).1;omega
   have MM:w.heap.size<=L:=by omega
   refine⟨v2,vo3,acc++D7,_,rfl,?_,PV.1.lower MM,?_,Li,HQ.fs_.spot.trans Ka (leq9 HQ.fs_.fr.size Mf.size),?_,Nb⟩
   ·exact QH.frT PV.2 (λi hi=>by have h8:=(zaf Nu.1.row hi).1;omega) (λe=>by have:=(zaf Nu.1.row e).1;omega) (λi hi e=>Nu.1.ne i e hi)
   ·rw[zbb,<-J4]
   ·rw[List.length_append];simp only at Mg ⊢;omega
