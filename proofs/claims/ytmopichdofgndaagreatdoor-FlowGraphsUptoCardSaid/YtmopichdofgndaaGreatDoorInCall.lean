/- inline: what stands in place of a call. -/
import Derived.Test.YtmopichdofgndaaGreatDoorJgR2App
import Derived.Lib.ItoaLen
set_option linter.all false
namespace Go.Proofs.YtmopichdofgndaaGreatDoor
open Go.RowKit Go.Shelf Go.Maps
def InP (K:InK)(r:Sts×Ist)(s:Ist)(w:World)(v:Value)(e:Ending)(w':World):Prop:=
 ∃v' vo acc cs,e= .returned vo/\InAt K w' r.2 v'/\OutRow w.heap.size v' w' vo acc cs/\r.1=zao acc/\Fr (InT K v) w w'/\SpotP w v v'/\s.many+acc.length<=r.2.many/\r.2.calls<=r.2.many
structure InB (K:InK)(v:Value)(b:Nat):Prop where
 p:b≠K.P
 m:b≠K.bp
 v:v.ownBlock≠some b
def StC (K:InK)(stm:Sts->Nms->Ist->Sts×Ist)(xs:Sts):Prop:=
 ∀(w:World)(s:Ist)(v:Value)(n:Nms)(b q:Nat)(A:Option Addr)(c:Nat),InAt K w s v->s.calls<=s.many->NmM w b q n->InB K v b->SlR (λb o=>StR K.W0 K.S False xs b o) xs.len 128 A c->
  Calls Tryz.prog 28 #[.pointer (some ⟨K.P,0,none⟩),.slice A xs.len c,.map (some b)] w (InP K (stm xs n s) s w v)
theorem zbb:∀(a b:List St),zao (a++b)=Sts.app (zao a) (zao b)
 | [],_=>rfl
 |x::r,b=>by show x.cons (zao (r++b))=_;rw[zbb r b];rfl
theorem zbs:∀(a b c:Sts),Sts.app (Sts.app a b) c=Sts.app a (Sts.app b c)
 | .nil,_,_=>rfl
 | .cons _ _ _ _ _ _ _ r,b,c=>by simp only[Sts.app,zbs r b c]
theorem zcj:∀(a:Sts),Sts.app a .nil =a
 | .nil =>rfl
 | .cons _ _ _ _ _ _ _ r=>by simp only[Sts.app,zcj r]
def zgS (p:ByteArray)(c:Nat)(v:Va):Va:=⟨parN p c v.nm,v.at_⟩
theorem zmR (w:World):(zeroValue 68).run Tryz.prog w= .ok (.agg #[.string ⟨#[]⟩,.slice none 0 0,.slice none 0 0,.int .i64 0]) w:=by kernel_rfl
theorem Fr.thenT {T U:Nat->Prop}{a b c:World}(h:Fr T a b)(k:Fr U b c)(ht:∀i,i < a.heap.size->U i->T i):Fr T a c:=
 ⟨k.os.trans h.os,k.tape.trans h.tape,k.output.trans h.output,leq9 h.size k.size,λi hi hn=>(k.block i (ltq hi h.size) λhu=>hn (ht i hi hu)).trans (h.block i hi hn)⟩
theorem zdY (w:World)(k:Nat)(os:Array Obj):Fr NoT w (Go.Sort.grow (w.drewN k) os):=by
 refine⟨rfl,rfl,rfl,by simp[Go.Sort.grow],λi hi _=>?_⟩;show(w.heap++os)[i]?=w.heap[i]?
 rw[Array.getElem?_append_left hi]
structure CaSt (K:InK)(x:Prc)(s:Ist)(n:Nms)(args:Exs)(at_:Int)(L:Nat)(X bo:Nat)(wr:World)(v vo:Value)(acc:List St)(cs:List Value)(vs:List Va)(o:Nms)(k:Nat)(v0:Value)(w:World)(bx bs:Array Value)(b q:Nat):Prop where
 st:InAt K wr ⟨s.calls+1,vs,s.many⟩ v
 out:OutRow L v wr vo acc cs
 own:NmM wr bo k o
 fr:Fr (InT K v0) w wr
 spot:SpotP w v0 v
 vars:vs++(x.params.drop k).map (zgS x.nm (s.calls+1))=s.vars++x.params.map (zgS x.nm (s.calls+1))
 len:vs.length=s.vars.length+k
 eq:Sts.app (zao acc) (zby x.nm (s.calls+1) n at_ (x.params.drop k) (Exs.drop k args))= .cons 1 ⟨#[]⟩ .nil .nil .nil .nil at_ (zby x.nm (s.calls+1) n at_ x.params args)
 names:ownN x.nm (s.calls+1) (x.params.drop k) o=ownN x.nm (s.calls+1) x.params λ_=>none
 many:acc.length=k+1
 low:∀b,vo.ownBlock=some b->L<=b
 xb:Bk wr X 68 bx
 box:Bk wr w.heap.size 39 bs
 nms:NmM wr b q n
 sz:L<=wr.heap.size
 vlen:vs.length<=36
 apart:∀i,(i=w.heap.size\/i=X\/i=b)->¬(i=bo\/i=K.P\/v.ownBlock=some i)
 vbo:∀i,v.ownBlock=some i->i≠bo
 bP:bo≠K.P
def zfn (nw:ByteArray)(n:Nms)(e0:Int)(e1:ByteArray)(e2:Int)(e3:Exs)(e4:Int)(at_:Int):St:=⟨2,nw,zar n (.cons e0 e1 e2 e3 e4 .nil),.nil,.nil,.nil,at_⟩
theorem CaSt.next {K:InK}{x:Prc}{s:Ist}{n:Nms}{args:Exs}{at_:Int}{L X bo:Nat}{wr:World}{vk vo:Value}{acc:List St}{cs:List Value}{vs:List Va}{o:Nms}{kk:Nat}{v:Value}{w:World}{bx bs:Array Value}{b q:Nat}
  (h:CaSt K x s n args at_ L X bo wr vk vo acc cs vs o kk v w bx bs b q) (hL:K.P < L/\K.bp < L/\bo < L/\X < L/\w.heap.size < L/\b < L/\w.heap.size<=bo/\K.W0.heap.size<=L) {w6 w7:World} (Fk:Fr NoT wr w6) (Gw:Fr (λi=>i=bo) w6 w7) {pv:Va} {pr:List Va} {nw:ByteArray}
  (Y3:MpV w7 bo (kk+1) (λy=>if y=pv.nm.data.toList then some (.string nw)else(o y).map .string)) {DI:World} {vn:Value} (hP:InAt K DI ⟨s.calls+1,vs++ [⟨nw,pv.at_⟩],s.many⟩ vn) (Fo:Fr (λi=>i=K.P\/vk.ownBlock=some i) w7 DI) (Ns:SpotP w7 vk vn)
  {e0:Int} {e1:ByteArray} {e2:Int} {e3:Exs} {e4:Int} {er:Exs} {DO:World} {A':Option Addr} {c':Nat} (FC:Fr NoT DI DO) (Fh:SlR (λb o=>ExR DO (New DI.heap.size DO) True (zar n (.cons e0 e1 e2 e3 e4 .nil)) b o) 1 64 A' c') {DN:World} (FV:Fr NoT DO DN) (QD:OutRow L vn DN vo acc cs)
  {DQ:World} {gg cap:Nat} (Hg:DQ.ownsRow L 39 7 (.slice (some ⟨gg,0,none⟩) (acc.length+1) cap) (acc.length+1) (cs++ [.int .u8 2,.string nw,.slice A' 1 c',.slice none 0 0,.slice none 0 0,.slice none 0 0,.int .i64 at_])) (hg:DN.grownBy DQ vo.ownBlock) (GP:vo.ownBlock=some gg\/gg=DN.heap.size)
  (hd:x.params.drop kk=pv::pr) (JT:x.params.drop (kk+1)=pr) (he:Exs.drop kk args= .cons e0 e1 e2 e3 e4 er) (KI:nw=parN x.nm (s.calls+1) pv.nm) (Hd:in64 at_) (xI:vs.length+1<=36):
  CaSt K x s n args at_ L X bo DQ vn (.slice (some ⟨gg,0,none⟩) (acc.length+1) cap) (acc++ [zfn nw n e0 e1 e2 e3 e4 at_]) (cs++ [.int .u8 2,.string nw,.slice A' 1 c',.slice none 0 0,.slice none 0 0,.slice none 0 0,.int .i64 at_]) (vs++ [⟨nw,pv.at_⟩]) (λy=>if y=pv.nm.data.toList then some nw else o y) (kk+1) v w bx bs b q:=by
 obtain⟨XK,xJ,Dp,Dq,Ds,xK,gr,TW⟩:=hL;have z0:=h.sz;have z6:=Fk.size;have z7:=Gw.size;have z10:=Fo.size;have z11:=FC.size;have z12:=FV.size;have NU:(zar n (.cons e0 e1 e2 e3 e4 .nil)).len =1:=by rw[zaC];rfl
 have Y4:∀i,vo.ownBlock=some i->L<=i/\i < wr.heap.size:=λi hi=>zaf h.out.row hi;have xL:∀i,vk.ownBlock=some i->i < wr.heap.size:=λi hi=>by obtain⟨c9,h9,_⟩:=h.st.row;exact(zaf h9 hi).2
 have Y5:∀i,vn.ownBlock=some i->i < DI.heap.size:=λi hi=>by obtain⟨c9,h9,_⟩:=hP.row;exact(zaf h9 hi).2
 have Ge:One1 [.int .u8 2,.string nw,.slice A' 1 c',.slice none 0 0,.slice none 0 0,.slice none 0 0,.int .i64 at_]:=by
  intro u hu;simp only[List.mem_cons,List.not_mem_nil,or_false]at hu;rcases hu with rfl|rfl|rfl|rfl|rfl|rfl|rfl<;>rfl
 have WB:oneS DN (OutS L vo vn DN) (zfn nw n e0 e1 e2 e3 e4 at_) [.int .u8 2,.string nw,.slice A' 1 c',.slice none 0 0,.slice none 0 0,.slice none 0 0,.int .i64 at_]:=
  ⟨A',c',none,0,none,0,none,0,by rw[show(zfn nw n e0 e1 e2 e3 e4 at_).args.len =1 from NU];rfl,by simp[zfn,in8],Hd,by
   show SlR _ (zar n (.cons e0 e1 e2 e3 e4 .nil)).len 64 A' c'
   rw[NU];exact Fh.imp λ_ _ hx=>ExR.more (λi hi=>⟨by have:=hi.1;omega,by have:=hi.2;omega,λe=>by have:=Y4 i e;have:=hi.1;omega,λe=>by have:=Y5 i e;have:=hi.1;omega⟩) (ExR.keep (FV.same λi hi=>⟨hi.2,id⟩) hx),slr0,slr0,slr0⟩
 have kI:(Value.slice (some ⟨gg,0,none⟩) (acc.length+1) cap).ownBlock =vo.ownBlock\/(Value.slice (some ⟨gg,0,none⟩) (acc.length+1) cap).ownBlock =some DN.heap.size:=by
  rcases GP with e|e
  ·exact .inl e.symm
  ·exact .inr (by rw[e];rfl)
 obtain⟨Mc,Jx⟩:=QD.step (ys:= [zfn nw n e0 e1 e2 e3 e4 at_]) ⟨_, [],by simp,WB,rfl⟩ Ge Hg hg kI (λi hi=>by have:=Y5 i hi;omega);have hT:∀i,vo.ownBlock=some i->L<=i:=λi hi=>(Y4 i hi).1;have PP:Fr (λi=>vo.ownBlock=some i) DI DQ:=(FC.any.trans FV.any).trans Jx;have UY:Fr (λi=>i=K.P\/vk.ownBlock=some i\/vo.ownBlock=some i) w7 DQ:=(Fo.mono λ_ _ e=>e.elim .inl λe=> .inr (.inl e)).trans (PP.mono λ_ _ e=> .inr (.inr e));have Qk:Fr (λi=>i=bo\/i=K.P\/vk.ownBlock=some i\/vo.ownBlock=some i) wr DQ:=(Fk.any.trans (Gw.mono λ_ _ e=> .inl e)).trans (UY.mono λ_ _ e=> .inr e);have TC:∀i,(i=w.heap.size\/i=X\/i=b)->¬(i=bo\/i=K.P\/vk.ownBlock=some i\/vo.ownBlock=some i):=λi hi e=>by
  have h1:=h.apart i hi;rcases e with e|e|e|e
  ·exact h1 (.inl e)
  ·exact h1 (.inr (.inl e))
  ·exact h1 (.inr (.inr e))
  ·have:=hT i e;rcases hi with rfl|rfl|rfl<;>omega
 have Y6:∀i,vn.ownBlock=some i->vk.ownBlock=some i\/w7.heap.size<=i:=λi hi=>by
  rcases Ns with e|⟨g,e,FI⟩
  ·exact .inl (e▸hi)
  ·rw[e]at hi;have:=Option.some.inj hi;exact .inr (by omega)
 have yn:w.heap.size<=wr.heap.size:=h.fr.size;refine⟨(hP.frT PP (λi hi=>by have:=hT i hi;omega) (λe=>by have:=hT _ e;omega) (λe=>by have:=hT _ e;omega) (λi hi e=>QD.ne i e hi)),Mc,?_,?_,?_,?_,by simp[h.len];omega,?_,?_,by simp[h.many],λi hi=>(zaf Mc.row hi).1,
  h.xb.fr Qk (TC _ (.inr (.inl rfl))),h.box.fr Qk (TC _ (.inl rfl)),h.nms.fr Qk (TC _ (.inr (.inr rfl))),by have:=PP.size;omega,by simpa using xI,λi hi e=>?_,λi hi e=>?_,h.bP⟩
 ·have e9:(λy=>if y=pv.nm.data.toList then some (Value.string nw)else(o y).map .string)=λt=>((λy=>if y=pv.nm.data.toList then some nw else o y) t).map .string :=by
   funext y
   by_cases e:y=pv.nm.data.toList
   ·simp[e]
   ·simp[e]
  rw[e9]at Y3;refine MpV.fr Y3 UY λe=>?_;rcases e with e|e|e
  ·exact h.bP e
  ·exact h.vbo _ e rfl
  ·have:=hT _ e;omega
 ·refine Fr.thenT h.fr Qk λi hi e=>?_;rcases e with e|e|e|e
  ·omega
  ·exact .inl e
  ·rcases h.spot with k|⟨g,k,FI⟩
   ·exact .inr (k▸e)
   ·rw[k]at e;have:=Option.some.inj e;omega
  ·have:=hT _ e;omega
 ·exact h.spot.trans Ns (by omega)
 ·have:=h.vars;rw[hd]at this;rw[JT,<-this,KI];simp[zgS]
 ·rw[zbb,zbs,<-h.eq,hd,he,JT,Exs.drop_succ kk args he,KI];rfl
 ·have:=h.names;rw[hd]at this;rw[JT,<-this,KI];rfl
 ·have h1:=h.apart i hi;rcases e with e|e|e
  ·exact h1 (.inl e)
  ·exact h1 (.inr (.inl e))
  ·rcases Y6 i e with k|k
   ·exact h1 (.inr (.inr k))
   ·have Dt:=h.xb.lt;have MD:=h.nms.lt;have MQ:=h.box.lt;rcases hi with rfl|rfl|rfl<;>omega
 ·rcases Y6 i hi with k|k
  ·exact h.vbo i k e
  ·omega
set_option maxRecDepth 100000 in
set_option maxHeartbeats 3200000 in
theorem zkb (K:InK)(hk:K.Ok)(stm:Sts->Nms->Ist->Sts×Ist)(x:Prc)(NV:StC K stm x.body)(w:World)(s:Ist)(v:Value)(n:Nms)(b q:Nat)(kst:Int)(nm:ByteArray)(args:Exs)(A2:Option Addr)(c2:Nat)(V3 V4 V5:Value)(at_:Int)
  (h:InAt K w s v) (Js:s.calls<=s.many) (Jm:zaT s=false) (hn:NmM w b q n) (hb:InB K v b) (hx:K.procs nm.data.toList=some x) (NJ:x.params.length=args.len) (Fi:nm.size<=9223372036854775807) (UR:szX args) (ha:SlR (λb o=>ExR K.W0 K.S False args b o) args.len 64 A2 c2) (Hd:in64 at_):
  Calls Tryz.prog 83 #[.pointer (some ⟨K.P,0,none⟩),.agg #[.int .u8 kst,.string nm,.slice A2 args.len c2,V3,V4,V5,.int .i64 at_],.map (some b)] w (InP K (zcR K.procs stm nm args n at_ s) s w v):=by
 obtain⟨pA,pc,pB,pe,Kk,RV,RW⟩:=hk.some_ _ _ hx;obtain⟨GB,Jn,Po,Y7,TX⟩:=hk.few _ _ hx;have Rb:args.len<=9223372036854775807:=leq9 ha.1 ha.2.1.1;obtain⟨ml,NT⟩:=nmq args.len;obtain⟨pl,QE⟩:=nmq x.params.length;obtain⟨bl,MQ⟩:=nmq x.body.len;obtain⟨w1,Hc⟩:=nmq (w.alloc (.cells #[.int .u8 kst,.string nm,.slice A2 args.len c2,V3,V4,V5,.int .i64 at_] 39));have Hi:Fr NoT w w1:=by rw[Hc];exact(Fr.refl _ _).alloc _
 have Hp:Bk w1 w.heap.size 39 #[.int .u8 kst,.string nm,.slice A2 args.len c2,V3,V4,V5,.int .i64 at_]:=by rw[Hc];exact Bk.new _ _ _
 have Gh:w1.heap.size=w.heap.size+1/\K.P < w.heap.size/\K.bp < w.heap.size/\b < w.heap.size:=⟨by rw[Hc];simp,h.bk.lt,h.map.lt,hn.lt⟩;have h1:=h.fr0 Hi;have yo:Hid (∀i,v.ownBlock=some i->i < w.heap.size):=hdq (λi hi=>by obtain⟨cs,h9,_⟩:=h.row;exact(zaf h9 hi).2);have LR:=λ(W:World)(hf:Fr NoT w1 W)=>MpV.get (h1.map.fr hf id) Tryz.underlying74 Fi (zmR W);rw[Kk]at LR;simp only[Option.getD_some,prcV]at LR;rw[<-NT]at Hp Hc ⊢;rw[<-QE,<-MQ]at LR;have p0:=h1.bk.cell 0;have pl0:=h1.bk.lt;have x1:=Hp.cell 1;have EZ:=Hp.lt;simp only[getsL]at p0 x1;have HH:=hdq (aiq h1 (aiq Js (aiq Jm (aiq (hn.fr Hi id) (aiq hb (aiq hx (aiq NJ (aiq Fi (aiq UR ha)))))))));have HP:=hdq (aiq RV (aiq RW (aiq GB (aiq Jn (aiq Po Y7)))));have HL:=hdq (aiq NT (aiq QE (aiq MQ Gh)));have Ga:=hdq Hc;have Hn:=hdq Hi;have Gv:=hdq Hp;have Du:=hdq LR;have Dv:=hdq (h1.bk);have Ye:=hdq NV;have HK:=hdq hk;have Lp:=hdq Hd;have xM:=LR _ ((Fr.refl NoT w1).drew);have HS:Hid (∀W',Fr NoT w1 W'->K.P < W'.heap.size/\w.heap.size < W'.heap.size/\W'.cell? ⟨K.P,0,none⟩=some (.map (some K.bp))/\W'.cell? ⟨w.heap.size,1,none⟩=some (.string nm)/\(Instr.lookup 74 (.map (some K.bp)) (.string nm) false).run Tryz.prog W'= .ok (.agg #[.string x.nm,.slice pA pl pc,.slice pB bl pe,.int .i64 x.at_]) W'):=
  hdq (λW' hf=>⟨ltq pl0 hf.size,ltq EZ hf.size,(hf.cell (p:=⟨K.P,0,none⟩) pl0 id).trans p0,(hf.cell (p:=⟨w.heap.size,1,none⟩) EZ id).trans x1,LR W' hf⟩)
 have Pj:= @run_makeMap Tryz.prog;clear h h1 Js Jm hn hb hx NJ Fi UR ha Hd Hi Hp Hc RV RW GB Jn Po Y7 TX NT QE MQ LR NV hk Kk Gh xM;go_enter Tryz.func83,Tryz.ntmps83;go_wp2_with fail;rw[<-Ga.out];go_cut [7,8] (λs7 s8 wx=>∃X bo,s7= .pointer (some ⟨X,0,none⟩)/\s8= .map (some bo)/\Hid (Bk wx X 68 #[.string x.nm,.slice pA pl pc,.slice pB bl pe,.int .i64 x.at_])/\Hid (NmM wx bo 0 λ_=>none)/\Hid (Fr NoT w1 wx)/\Hid (w1.heap.size<=X/\w1.heap.size<=bo/\X≠bo));case first=>
  refine zad (λW'=>K.P < W'.heap.size/\w.heap.size < W'.heap.size/\W'.cell? ⟨K.P,0,none⟩=some (.map (some K.bp))/\W'.cell? ⟨w.heap.size,1,none⟩=some (.string nm)/\(Instr.lookup 74 (.map (some K.bp)) (.string nm) false).run Tryz.prog W'= .ok (.agg #[.string x.nm,.slice pA pl pc,.slice pB bl pe,.int .i64 x.at_]) W') (λi=>decide (i < 9)) (by kernel_rfl) (HS _ ((Fr.refl NoT w1).drew)) (λhHeld=>?_);refine zaa 0 ?_;simp only[putsL];refine zaa 1 ?_;simp only[putsL];refine zaa 2 ?_;simp only[putsL];refine zaa 4 ?_;simp only[putsL];refine zaz 3 hHeld ?_;simp only[putsL];refine zaz 5 hHeld ?_;simp only[putsL];refine zaz 6 hHeld ?_;simp only[putsL];refine zgM 7 8 rfl rfl (by kernel_rfl) (λK' hK=>?_) (λK' hK=>?_)
  ·go_simp;obtain⟨wA,Pp⟩:=nmq ((w1.alloc (.map #[] 0)).drew );rw[<-Pp];have MT:Fr NoT w1 wA:=by rw[Pp];exact((Fr.refl _ _).alloc _).drew
   have PQ:=HS wA MT;try dsimp only
   refine hK _ _ (λ_ _=>PQ) ?_;clear hK K' hHeld;try simp only[putsL]
   have Vy:=hdq Pp;have SY:=hdq MT;have gT:=hdq (show wA.heap.size=w1.heap.size+1 from by rw[Pp];simp[World.drew]);clear Pp MT;refine zab 8 rfl (by kernel_rfl) (λK' hK=>?_);go_simp;obtain⟨wB,MA⟩:=nmq (wA.alloc (.cells #[.string ⟨#[]⟩,.slice none 0 0,.slice none 0 0,.int .i64 0] 68));rw[<-MA];have M8:Fr NoT w1 wB:=by rw[MA];exact SY.alloc _
   have RX:=HS wB M8;try dsimp only
   refine hK _ _ (λ_ _=>RX) ?_;clear hK K' PQ RX;try simp only[putsL]
   have Y8:=hdq MA;have Y9:=hdq M8;have gM:=hdq (show Fr NoT wA wB from by rw[MA];exact(Fr.refl _ _).alloc _);have xN:wA.heap.size < wB.heap.size:=by rw[MA];simp
   clear MA M8;have hX:Bk wB wA.heap.size 68 #[.string ⟨#[]⟩,.slice none 0 0,.slice none 0 0,.int .i64 0]:=by rw[Y8.out];exact Bk.new _ _ _
   have y0:=hX.frozen 0;have y1:=hX.frozen 1;have y2:=hX.frozen 2;have y3:=hX.frozen 3;have y4:=hX.cell 0;have y5:=hX.cell 1;have y6:=hX.cell 2;have y7:=hX.cell 3;simp only[getsL]at y4 y5 y6 y7;have HX:=hdq hX;clear hX;refine zab 9 rfl (by kernel_rfl) (λKK hK=>?_);go_simp;refine hK _ _ (λh=>absurd h (by decide)) ?_;clear hK KK;try simp only[putsL]
   refine zab 10 rfl (by kernel_rfl) (λKK hK=>?_);go_simp;refine hK _ _ (λh=>absurd h (by decide)) ?_;clear hK KK;try simp only[putsL]
   refine zai (by kernel_rfl) ?_;go_wp2_with fail
   go_meet
   have XL:=(((HX.set_ 0 (.string x.nm)).set_ 1 (.slice pA pl pc)).set_ 2 (.slice pB bl pe)).set_ 3 (.int .i64 x.at_);have hm:NmM wB w1.heap.size 0 λ_=>none:=by
    have h1:=(MpV.made w1).fr ((Fr.refl NoT _).drew) id;rw[<-Vy.out]at h1;exact(h1.fr gM.out id)
   have Za:=gT.out;refine⟨_,_,rfl,rfl,hdq (by simpa using XL),hdq (hm.fr (T:=λi=>i=wA.heap.size) (Fr.own (Fr.own (Fr.own (Fr.own (Fr.refl _ _) _ _) _ _) _ _) _ _) (by omega)),hdq ((((Y9.high (by omega) _ _).high (by omega) _ _).high (by omega) _ _).high (by omega) _ _),hdq (by omega)⟩
  ·go_simp;obtain⟨wA,Pp⟩:=nmq ((w1.alloc (.cells #[.string ⟨#[]⟩,.slice none 0 0,.slice none 0 0,.int .i64 0] 68)).drew );rw[<-Pp];have MT:Fr NoT w1 wA:=by rw[Pp];exact((Fr.refl _ _).alloc _).drew
   have PQ:=HS wA MT;try dsimp only
   refine hK _ _ (λ_ _=>PQ) ?_;clear hK K' hHeld;try simp only[putsL]
   have hX:Bk wA w1.heap.size 68 #[.string ⟨#[]⟩,.slice none 0 0,.slice none 0 0,.int .i64 0]:=by rw[Pp];exact(Bk.new _ _ _).fr0 ((Fr.refl _ _).drew)
   have SY:=hdq MT;have gT:=hdq (show wA.heap.size=w1.heap.size+1 from by rw[Pp];simp[World.drew]);have RY:=hdq hX;clear Pp MT hX;refine zgM 7 9 rfl rfl (by kernel_rfl) (λK' hK=>?_) (λK' hK=>?_)
   ·go_simp;obtain⟨wB,MA⟩:=nmq (wA.alloc (.map #[] 0));rw[<-MA];have M8:Fr NoT w1 wB:=by rw[MA];exact SY.alloc _
    have RX:=HS wB M8;try dsimp only
    refine hK _ _ (λ_ _=>RX) ?_;clear hK K' PQ RX;try simp only[putsL]
    have Y9:=hdq M8;have hm:NmM wB wA.heap.size 0 λ_=>none:=by rw[MA];exact MpV.made wA
    have hX:Bk wB w1.heap.size 68 #[.string ⟨#[]⟩,.slice none 0 0,.slice none 0 0,.int .i64 0]:=by rw[MA];exact RY.alloc _
    have HM:=hdq hm;have xN:=hX.lt;clear MA M8 hm;have y0:=hX.frozen 0;have y1:=hX.frozen 1;have y2:=hX.frozen 2;have y3:=hX.frozen 3;have y4:=hX.cell 0;have y5:=hX.cell 1;have y6:=hX.cell 2;have y7:=hX.cell 3;simp only[getsL]at y4 y5 y6 y7;have HX:=hdq hX;clear hX;refine zab 9 rfl (by kernel_rfl) (λKK hK=>?_);go_simp;refine hK _ _ (λh=>absurd h (by decide)) ?_;clear hK KK;try simp only[putsL]
    refine zab 10 rfl (by kernel_rfl) (λKK hK=>?_);go_simp;refine hK _ _ (λh=>absurd h (by decide)) ?_;clear hK KK;try simp only[putsL]
    refine zai (by kernel_rfl) ?_;go_wp2_with fail
    go_meet
    have XL:=(((HX.set_ 0 (.string x.nm)).set_ 1 (.slice pA pl pc)).set_ 2 (.slice pB bl pe)).set_ 3 (.int .i64 x.at_);have Za:=gT.out;refine⟨_,_,rfl,rfl,hdq (by simpa using XL),hdq (HM.fr (T:=λi=>i=w1.heap.size) (Fr.own (Fr.own (Fr.own (Fr.own (Fr.refl _ _) _ _) _ _) _ _) _ _) (by omega)),hdq ((((Y9.high (by omega) _ _).high (by omega) _ _).high (by omega) _ _).high (by omega) _ _),hdq (by omega)⟩
   ·have Za:=RY.lt;have y0:=RY.frozen 0;have y1:=RY.frozen 1;have y2:=RY.frozen 2;have y3:=RY.frozen 3;have y4:=RY.cell 0;have y5:=RY.cell 1;have y6:=RY.cell 2;have y7:=RY.cell 3;simp only[getsL]at y4 y5 y6 y7;go_simp;obtain⟨wC,Zb⟩:=nmq ((((wA.setCell ⟨w1.heap.size,0,none⟩ (.string x.nm)).setCell ⟨w1.heap.size,1,none⟩ (.slice pA pl pc)).setCell ⟨w1.heap.size,2,none⟩ (.slice pB bl pe)).setCell ⟨w1.heap.size,3,none⟩ (.int .i64 x.at_));rw[<-Zb];try dsimp only
    refine hK _ _ (λh=>absurd h (by decide)) ?_;clear hK K' PQ;try simp only[putsL]
    have yp:Fr NoT w1 wC:=by rw[Zb];exact(((SY.high (lrq _) _ _).high (lrq _) _ _).high (lrq _) _ _).high (lrq _) _ _
    have XL:Bk wC w1.heap.size 68 #[.string x.nm,.slice pA pl pc,.slice pB bl pe,.int .i64 x.at_]:=by
     have:=(((RY.set_ 0 (.string x.nm)).set_ 1 (.slice pA pl pc)).set_ 2 (.slice pB bl pe)).set_ 3 (.int .i64 x.at_);rw[Zb];simpa using this
    have yq:=hdq yp;have xO:=hdq XL;have xP:=hdq (show wC.heap.size=w1.heap.size+1 from by rw[Zb];simpa using gT.out);clear Zb yp XL y0 y1 y2 y3 y4 y5 y6 y7;refine zab 7 rfl (by kernel_rfl) (λKK hK=>?_);go_simp;obtain⟨wB,MA⟩:=nmq (wC.alloc (.map #[] 0));rw[<-MA];try dsimp only
    refine hK _ _ (λ_ _=>HS wB (by rw[MA];exact yq.alloc _)) ?_;clear hK KK;try simp only[putsL]
    have Y8:=hdq MA;clear MA;refine zab 10 rfl (by kernel_rfl) (λKK hK=>?_);go_simp;refine hK _ _ (λh=>absurd h (by decide)) ?_;clear hK KK;try simp only[putsL]
    refine zai (by kernel_rfl) ?_;go_wp2_with fail
    go_meet
    have Dw:=xP.out;exact⟨_,_,rfl,rfl,hdq (by rw[Y8.out];exact xO.alloc _),hdq (by rw[Y8.out];exact MpV.made wC),hdq (by rw[Y8.out];exact yq.alloc _),hdq (by omega)⟩
 case rest=>
  obtain⟨X,bo,rfl,rfl,hX,hO,hF,hN⟩:=hcut;have hA:=HH.1.fr0 hF.out;have Kk:=Hn.trans hF.out;have kB:=Gv.fr0 hF.out;have g1:=hA.bk.cell 1;have f1:=hA.bk.frozen 1;have gl:=hA.bk.lt;have b6:=kB.cell 6;have bl6:=kB.lt;have x1':=hX.out.cell 1;have xl':=hX.out.lt;simp only[getsL]at g1 b6 x1';obtain⟨cn,FE⟩:=nmq s.calls;rw[<-FE]at g1;have KM:cn<=262:=by have:=HH.2.1;have:=hA.most.1;omega
  have WC:K.P≠X:=λe=>by have:=hN.out.1;omega
  have kJ:K.P≠w.heap.size:=λe=>by have:=HL.2.2.2.2.1;omega
  have K0:=hdq FE;have HA:=hdq hA;have K4:=hdq Kk;have Tq:=hdq kB;clear hA Kk kB FE p0 x1 pl0 EZ;obtain⟨i0,RZ,Fe,Lh,R0⟩:=info_parts zej;obtain⟨w2,FU⟩:=nmq (wc.setCell ⟨K.P,1,none⟩ (.int .i64 ((cn:Int)+1)));obtain⟨w3,F3⟩:=nmq (w2.alloc (.cells #[.int .u8 1,.string ⟨#[]⟩,.slice none 0 0,.slice none 0 0,.slice none 0 0,.slice none 0 0,.int .i64 at_] 39));have yt:InAt K w2 ⟨s.calls+1,s.vars,s.many⟩ v:=by
   rw[FU,K0.out];exact HA.set 1 _ (by simp) rfl ⟨HA.most.1,by have:=HH.2.1;simp only;omega⟩
  have Gn:w2.heap.size=wc.heap.size:=by rw[FU];simp
  have Gd:Fr (λb=>b=K.P) wc w2:=by rw[FU];exact Fr.own (Fr.refl _ _) _ _
  have GQ:Fr NoT w2 w3:=by rw[F3];exact(Fr.refl _ _).alloc _
  have Hw:Bk w3 wc.heap.size 39 ([.int .u8 1,.string ⟨#[]⟩,.slice none 0 0,.slice none 0 0,.slice none 0 0,.slice none 0 0,.int .i64 at_]:List Value).toArray :=by rw[F3];exact Bk.new_at _ _ _ Gn
  have HI:=hdq (aiq RZ (aiq Fe (aiq Lh R0)));have LJ:=hdq FU;have Rf:=hdq F3;have yu:=hdq (yt.fr0 GQ);have Hy:=hdq Gd;have Gc:=hdq GQ;have F5:=hdq Hw;have Dx:=hdq Gn;have L9:wc.heap.size<=w3.heap.size:=by have:=GQ.size;omega
  clear FU F3 yt Gd GQ Hw Gn RZ Fe Lh R0;go_wp2_with (at_builtin;rw[<-LJ.out,<-Rf.out];refine zat _ rfl _ _ 25 rfl wc.heap.size 39 i0 (.agg zdx) 7 128 Tryz.underlying25 HI.1 HI.2.1 HI.2.2.1 HI.2.2.2 rfl (by decide) (.slice none 0 0) 0 [] rfl (World.ownsRow_nil _ _ _ _) ⟨wc.heap.size,0,none⟩ 1 1 _ rfl rfl F5.newsL ?c2 (by decide) (by decide) L9 ?_);case c2=>
   intro u hu;simp only[List.mem_cons,List.not_mem_nil,or_false]at hu;rcases hu with rfl|rfl|rfl|rfl|rfl|rfl|rfl<;>rfl
  intro vo1 w4 MU Q6 Zc;have LK:∀i,v.ownBlock=some i->i < w3.heap.size:=λi hi=>by
   obtain⟨cs,h1,_⟩:=yu.row;exact(zaf h1 hi).2
  have Ge:One1 [.int .u8 1,.string ⟨#[]⟩,.slice none 0 0,.slice none 0 0,.slice none 0 0,.slice none 0 0,.int .i64 at_]:=by
   intro u hu;simp only[List.mem_cons,List.not_mem_nil,or_false]at hu;rcases hu with rfl|rfl|rfl|rfl|rfl|rfl|rfl<;>rfl
  obtain⟨cs4,R1⟩:∃cs4,OutRow wc.heap.size v w4 vo1 [zeH at_] cs4:=⟨_,((OutRow.nil wc.heap.size v w3).step (ys:= [zeH at_]) ⟨_, [],by simp,zht Lp.out,rfl⟩ Ge MU Q6 Zc LK).1⟩;have WD:Fr NoT w3 w4:=Fr.grown Q6 λg e _=>by simp[Value.ownBlock]at e
  have PR:Fr (λi=>i=K.P) wc w4:=(Hy.trans Gc.any).trans WD.any;have hL:=HL.2.2.2;have kK:∀i,v.ownBlock=some i->i < w.heap.size:=yo.out;have FF:∀i,v.ownBlock=some i->i < w1.heap.size:=λi hi=>by have:=kK i hi;omega
  have gU:CaSt K x s n args at_ wc.heap.size X bo w4 v vo1 [zeH at_] cs4 s.vars (λ_=>none) 0 v w #[.string x.nm,.slice pA pl pc,.slice pB bl pe,.int .i64 x.at_] #[.int .u8 kst,.string nm,.slice A2 ml c2,V3,V4,V5,.int .i64 at_] b q:=by
   refine⟨yu.fr0 WD,R1,hO.out.fr PR (λe=>by have e:bo=K.P:=e;have:=hN.out;omega),(K4.any:Fr (InT K v) w wc).trans (PR.mono λ_ _ e=> .inl e),SpotP.refl _ _,by simp,rfl,rfl,rfl,rfl,λi hi=>(zaf R1.row hi).1,
    hX.out.fr PR (λe=>WC e.symm),Tq.fr PR (λe=>kJ e.symm),(HH.2.2.2.1.fr hF.out id).fr PR HH.2.2.2.2.1.p,PR.size,HH.1.most.2.2,λi hi e=>?_,λi hi e=>by have h9:=FF i hi;have:=hN.out;omega,λe=>by have:=hN.out;omega⟩
   have KH:=kK;have:=hN.out;have:=HH.2.2.2.2.1;rcases hi with rfl|rfl|rfl
   ·rcases e with e|e|e
    ·omega
    ·omega
    ·have:=KH _ e;omega
   ·rcases e with e|e|e
    ·omega
    ·omega
    ·have:=KH _ e;omega
   ·rcases e with e|e|e
    ·omega
    ·exact this.p e
    ·exact this.v e
  have x14:=gU.xb.cell 1;have xl4:=gU.xb.lt;simp only[getsL]at x14;have TY:=hdq gU;have HN:=hdq hN.out;have kL:pl<=4:=by rw[HL.2.1];exact HP.2.2.1
  clear MU Q6 Zc LK Ge R1 WD PR hL kK FF gU g1 f1 gl b6 bl6 x1' xl' L9;go_wp2_with fail;go_loopw [6,36] (λvo i wr=>∃k:Nat,k<=pl/\i= .int .i64 k/\∃(v':Value)(acc:List St)(cs:List Value)(vs:List Va)(o:Nms),Hid (CaSt K x s n args at_ wc.heap.size X bo wr v' vo acc cs vs o k v w #[.string x.nm,.slice pA pl pc,.slice pB bl pe,.int .i64 x.at_] #[.int .u8 kst,.string nm,.slice A2 ml c2,V3,V4,V5,.int .i64 at_] b q)) (λ_ i _=>pl - (intOf i).toNat);case atStart=>exact⟨0,Nat.zero_le _,rfl,_,_,_,_,_,TY⟩
  case round=>
   clear TY;obtain⟨kk,FR,rfl,vk,acc,cs,vs,o,hb⟩:=hrel;by_cases Hr:kk < pl
   ·
    obtain⟨pv,pr,hd,JT⟩:=zac (show kk < x.params.length from by rw[<-HL.2.1];exact Hr);obtain⟨e0,e1,e2,e3,e4,er,he⟩:=Exs.drop_cons (show kk < args.len from by rw[<-HH.2.2.2.2.2.2.1,<-HL.2.1];exact Hr);obtain⟨pb,po,rfl,Hd⟩:=HP.1.2.2 (by rw[<-HL.2.1];omega);have Hb:=(VaR.keep (hb.out.st.fr.same λi hi=>⟨HK.low i hi,id⟩) Hd).drop kk;rw[hd]at Hb;obtain⟨⟨Hf,_,r1,c0,c1⟩,_⟩:=Hb;have Gf:pb < wr.heap.size:=ltq (HK.low _ Hf) hb.out.st.fr.size;have Hl:(kk:Int) < (pl:Int):=by omega
    have Fb:(0:Int)<=(kk:Int):=by omega
    obtain⟨w5,GE⟩:=nmq (wr.alloc (.cells #[.string pv.nm,.int .i64 pv.at_] 43));have Hs:Fr NoT wr w5:=by rw[GE];exact(Fr.refl _ _).alloc _
    have Hm:Bk w5 wr.heap.size 43 #[.string pv.nm,.int .i64 pv.at_]:=by rw[GE];exact Bk.new _ _ _
    obtain⟨c1n,NW⟩:=nmq (s.calls+1);have h5:=hb.out.st.fr0 Hs;have kx5:=hb.out.xb.fr0 Hs;have q0:=kx5.cell 0;have ER:=kx5.lt;have q1:=h5.bk.cell 1;have E0:=h5.bk.lt;have q2:=Hm.cell 0;have ql2:=Hm.lt;simp only[getsL]at q0 q1 q2;rw[<-NW]at q1;have xQ:c1n<=262:=by have h9:s.many<=261:=h5.most.1;have:=HH.2.1;omega
    have hit:∀W,Fr NoT w5 W->Calls Tryz.prog 39 #[.int .i64 c1n] W λe w'=>e= .returned (.string ⟨(Lib.itoa (c1n:Int)).toArray⟩)/\Fr NoT W w':=λW hf=>by
     refine(Tryz.strconv_Itoa (c1n:Int) (by omega) (by omega) W ((h5.fr0 hf).tab HK.out)).mono ?_;rintro e w' ⟨rfl,j,os,rfl⟩;exact⟨rfl,zdY _ _ _⟩
    have SV:x.nm.size<=16:=HP.2.2.2.1;have Ku:pv.nm.size<=16:=(HP.2.2.2.2.1 pv (List.mem_of_mem_drop (i:=kk) (by rw[hd];simp))).1;have XM:(Lib.itoa (c1n:Int)).length <=21:=Lib.itoa_length_le _ (by omega) (by omega);obtain⟨ib,TZ⟩:=nmq ((⟨(Lib.itoa (c1n:Int)).toArray⟩:ByteArray));have Zd:ib.size<=21:=by rw[TZ];simpa[ByteArray.size]using XM
    rw[<-TZ]at hit;have Fs:¬9223372036854775807 < x.nm.size+1:=by omega
    have Ft:¬9223372036854775807 < x.nm.size+1+ib.size:=by omega
    have Kj:¬9223372036854775807 < x.nm.size+1+ib.size+1:=by omega
    have Vt:¬9223372036854775807 < x.nm.size+1+ib.size+1+pv.nm.size:=by omega
    have kM:=hdq hit;have Ri:=hdq (aiq TZ NW);have HD:=hdq (aiq hd (aiq JT (aiq he (aiq r1 (aiq SV (aiq Ku Zd))))));have JD:=hdq GE;have Hx:=hdq Hs;have GO:=hdq Hm;clear hd JT he r1 SV Ku Zd XM TZ hit Hd Hf GE Hs Hm h5 kx5 NW xQ;go_wp2_with fail;rw[<-JD.out];clear c0 c1 Gf;refine zad (λW'=>X < W'.heap.size/\K.P < W'.heap.size/\wr.heap.size < W'.heap.size/\W'.cell? ⟨X,0,none⟩=some (.string x.nm)/\W'.cell? ⟨K.P,1,none⟩=some (.int .i64 c1n)/\W'.cell? ⟨wr.heap.size,0,none⟩=some (.string pv.nm)) (λi=>decide (i < 13)) (by kernel_rfl) ⟨ER,E0,ql2,q0,q1,q2⟩ (λhHeld=>?_);refine zaa 0 ?_;simp only[putsL];refine zaa 3 ?_;simp only[putsL];refine zaa 4 ?_;simp only[putsL];refine zaa 5 ?_;simp only[putsL];refine zaa 10 ?_;simp only[putsL];refine zaz 1 hHeld ?_;simp only[putsL];refine zaz 6 hHeld ?_;simp only[putsL];refine zaz 11 hHeld ?_;simp only[putsL];refine zaa 2 ?_;simp only[putsL];refine zab 7 rfl (by kernel_rfl) (λKK hK=>?_);go_simp;go_at_call 39;refine(kM _ ((Fr.refl NoT w5).drew)).mono ?_;rintro _ w6 ⟨rfl,Fk⟩;have GF:=hdq (((Fr.refl NoT w5).drew).trans Fk);clear hHeld Fk;have hHeld:X < w6.heap.size/\K.P < w6.heap.size/\wr.heap.size < w6.heap.size/\w6.cell? ⟨X,0,none⟩=some (.string x.nm)/\w6.cell? ⟨K.P,1,none⟩=some (.int .i64 c1n)/\w6.cell? ⟨wr.heap.size,0,none⟩=some (.string pv.nm):=⟨ltq ER GF.size,ltq E0 GF.size,ltq ql2 GF.size,(GF.cell (p:=⟨X,0,none⟩) ER id).trans q0,(GF.cell (p:=⟨K.P,1,none⟩) E0 id).trans q1,(GF.cell (p:=⟨wr.heap.size,0,none⟩) ql2 id).trans q2⟩
    dsimp only;refine hK _ _ (λ_ _=>hHeld) ?_;clear hK;try simp only[putsL]
    refine zaa 8 ?_;simp only[putsL];refine zaa 9 ?_;simp only[putsL];refine zaa 12 ?_;simp only[putsL];refine zab 13 rfl (by kernel_rfl) (λKK hK=>?_);go_simp;refine hK _ _ (λh=>absurd h (by decide)) ?_;clear hK KK;try simp only[putsL]
    refine zai (by kernel_rfl) ?_;obtain⟨nw,KI⟩:=nmq (x.nm++{data:= #[46]}++ib++{data:= #[46]}++pv.nm);rw[<-KI];have R2:nw=parN x.nm (s.calls+1) pv.nm:=by rw[KI,Ri.1,Ri.2];rfl
    have GM:Fr NoT wr w6:=Hx.trans GF.out;obtain⟨w7,K6,Y3,R3⟩:=MpV.put (hb.out.own.fr GM id) Tryz.underlying79 (s:=pv.nm) (by have:=HD.2.2.2.2.2.1;omega) (.string nw) (by have:=HP.2.2.1;have:=HL.2.1;unfold maxLen;omega);have yv:bo < wc.heap.size:=hO.out.lt;have Ze:wc.heap.size<=wr.heap.size:=hb.out.sz;have Gw:Fr (λi=>i=bo) w6 w7:=Fr.grown R3 λg e _=>(Option.some.inj e).symm;have WE:K.P≠bo:=λe=>by have:=HN.out;have:=HL.2.2.2;omega
    have R4:K.bp≠bo:=λe=>by have:=HN.out;have:=HL.2.2.2;omega
    have WF:∀i,vk.ownBlock=some i->i≠bo:=hb.out.vbo;have h7:InAt K w7 ⟨s.calls+1,vs,s.many⟩ vk:=(hb.out.st.fr0 GM).frT Gw (λi e=>by have e:i=bo:=e;have:=HN.out;have:=HL.2.2.2;have:=HH.1.fr.size;omega) WE R4 WF;have GK:=(GO.fr0 GF.out).fr Gw (λe=>by have e:wr.heap.size=bo:=e;omega);obtain⟨csv,J9,Md⟩:=h7.row;have u0:=hHeld.2.2.2.2.2;have ul0:=hHeld.2.2.1;have u1:=GK.cell 1;have ul1:=GK.lt;have u2:=h7.bk.cell 2;have uf2:=h7.bk.frozen 2;have E1:=h7.bk.lt;simp only[getsL]at u1 u2;obtain⟨iV,UZ,U0,U1,U2⟩:=info_parts zfI;have Nt:=hdq (aiq UZ (aiq U0 (aiq U1 U2)));have ME:=hdq R2;have H7:=hdq h7;have WG:=hdq Gw;have xR:=hdq Y3;have KS:=hdq (aiq J9 Md);have Lx:=hdq GM;have yw:=hdq (aiq yv (aiq Ze (aiq WE (aiq R4 WF))));clear hHeld q0 q1 q2 ER E0 ql2 Fs Ft Kj Vt KI R2 h7 Gw Y3 J9 Md GM yv Ze WE R4 WF GK UZ U0 U1 U2 R3;go_wp2_with fail;clear K6 u0 ul0;refine zad (λW'=>K.P < W'.heap.size/\wr.heap.size < W'.heap.size/\W'.cell? ⟨K.P,2,none⟩=some vk/\W'.cell? ⟨wr.heap.size,1,none⟩=some (.int .i64 pv.at_)) (λi=>decide (i < 11)) (by kernel_rfl) ⟨E1,ul1,u2,u1⟩ (λhHeld=>?_);refine zaa 0 ?_;simp only[putsL];refine zaa 1 ?_;simp only[putsL];refine zaa 2 ?_;simp only[putsL];refine zaa 3 ?_;simp only[putsL];refine zaa 5 ?_;simp only[putsL];refine zaa 6 ?_;simp only[putsL];refine zaz 4 hHeld ?_;simp only[putsL];refine zaz 7 hHeld ?_;simp only[putsL];refine zaa 8 ?_;simp only[putsL];refine zab 9 rfl (by kernel_rfl) (λKK hK=>?_);go_simp
    obtain⟨w8,GG⟩:=nmq ((w7.alloc (.cells #[.string nw,.int .i64 pv.at_] 43)).drew );rw[<-GG];have Gj:Fr NoT w7 w8:=by rw[GG];exact((Fr.refl _ _).alloc _).drew
    have Hk:Bk w8 w7.heap.size 43 ([.string nw,.int .i64 pv.at_]:List Value).toArray :=by rw[GG];exact(Bk.new _ _ _).fr0 ((Fr.refl _ _).drew)
    have FH:K.P < w8.heap.size/\wr.heap.size < w8.heap.size/\w8.cell? ⟨K.P,2,none⟩=some vk/\w8.cell? ⟨wr.heap.size,1,none⟩=some (.int .i64 pv.at_):=⟨ltq E1 Gj.size,ltq ul1 Gj.size,(Gj.cell (p:=⟨K.P,2,none⟩) E1 id).trans u2,(Gj.cell (p:=⟨wr.heap.size,1,none⟩) ul1 id).trans u1⟩;have Gt:=zag KS.1 Gj λ_ _=>id;have GD:=hdq Gj;have Kf:=hdq Hk;have Fm:=hdq Gt;have TI:w7.heap.size < w8.heap.size:=Hk.lt;have yx:=hdq (show w8.heap.size=w7.heap.size+1 from by rw[GG];simp[World.drew]);clear GG Gj Hk Gt hHeld;try dsimp only
    refine hK _ _ (λ_ _=>FH) ?_;clear hK KK;try simp only[putsL]
    refine zab 10 rfl (by kernel_rfl) (λKK hK=>?_);refine step_append_lies _ (by rfl) _ _ _ (by rfl) K.W0.heap.size 43 iV (.agg #[.string ⟨#[]⟩,.int .i64 0]) 2 24 Tryz.underlying22 Nt.1 Nt.2.1 Nt.2.2.1 Nt.2.2.2 rfl (by decide) vk vs.length csv (by rfl) Fm.out
     ⟨w7.heap.size,0,none⟩ 1 1 _ (by rfl) (by rfl) Kf.newsL (by simp[Value.oneCell']) (by omega) ?c63 ?cby ?cba _ rfl ?_
    case c63=>have:=hb.out.vlen;unfold maxLen;omega
    case cby=>have:=hb.out.vlen;omega
    case cba=>have:=(H7.fr0 GD.out).fr.size;omega
    intro gg cap w9 Hg Hh GP L5;have Ns:(Value.slice (some ⟨gg,0,none⟩) (vs.length+1) cap).ownBlock =vk.ownBlock\/(Value.slice (some ⟨gg,0,none⟩) (vs.length+1) cap).ownBlock =some w8.heap.size:=by
     rcases GP with e|e
     ·exact .inl e.symm
     ·exact .inr (by rw[e];rfl)
    have h8:=H7.fr0 GD.out;have R5:vs.length+1<=36:=by
     have h1:=hb.out.len;have h2:=HH.2.2.1;unfold zaT at h2;simp only[Bool.or_eq_false_iff,decide_eq_false_iff_not]at h2;have:=HP.2.2.1;have:=HL.2.1;omega
    obtain⟨Lo,R6⟩:=h8.push (x:=⟨nw,pv.at_⟩) KS.2.any HD.2.2.2.1 R5 Hg Hh Ns;have PS:some K.P≠vk.ownBlock:=λe=>h8.ne.2.1 e.symm;have f9:=(Hh.frozen_far ⟨K.P,2,none⟩ h8.bk.lt PS).trans (h8.bk.frozen 2);have q9:=(Hh.cell_far ⟨K.P,2,none⟩ h8.bk.lt PS).trans FH.2.2.1;have l9:K.P < w9.heap.size:=ltq h8.bk.lt Hh.size;have PT:some wr.heap.size≠vk.ownBlock:=λe=>by
     obtain⟨DW,Rh,_⟩:=hb.out.st.row;have:=(zaf Rh e.symm).2;omega
    have KJ:K.P < w9.heap.size/\wr.heap.size < w9.heap.size/\w9.cell? ⟨K.P,2,none⟩=some vk/\w9.cell? ⟨wr.heap.size,1,none⟩=some (.int .i64 pv.at_):=⟨l9,ltq FH.2.1 Hh.size,q9,(Hh.cell_far ⟨wr.heap.size,1,none⟩ FH.2.1 PT).trans FH.2.2.2⟩;have yy:=hdq (show SpotP w7 vk (.slice (some ⟨gg,0,none⟩) (vs.length+1) cap)from by
     rcases Ns with e|e
     ·exact .inl e
     ·exact .inr ⟨_,e,Nat.le_of_lt TI⟩)
    have TR:=hdq Lo;have T0:=hdq (GD.any.trans R6:Fr (λi=>i=K.P\/vk.ownBlock=some i) w7 (w9.setCell ⟨K.P,2,none⟩ (.slice (some ⟨gg,0,none⟩) (vs.length+1) cap)));clear Ns Hg Hh GP h8 Lo R6 PS PT FH TI;try dsimp only
    refine hK _ _ (λ_ _=>KJ) ?_;clear hK KK;try simp only[putsL]
    refine zab 11 rfl (by kernel_rfl) (λKK hK=>?_);go_simp;refine hK _ _ (λh=>absurd h (by decide)) ?_;clear hK KK;try simp only[putsL]
    refine zab 12 rfl (by kernel_rfl) (λKK hK=>?_);go_simp;refine hK _ _ (λh=>absurd h (by decide)) ?_;clear hK KK;try simp only[putsL]
    refine zab 13 rfl (by kernel_rfl) (λKK hK=>?_);go_simp;refine hK _ _ (λh=>absurd h (by decide)) ?_;clear hK KK;try simp only[putsL]
    refine zai (by kernel_rfl) ?_;clear KJ f9 q9 l9 L5 u1 ul1 u2 uf2 E1;obtain⟨DI,Me⟩:=nmq (w9.setCell ⟨K.P,2,none⟩ (.slice (some ⟨gg,0,none⟩) (vs.length+1) cap));rw[<-Me];rw[<-Me]at TR T0;clear Me
    -- the arguments made anew
    have R7:Fr (λi=>i=bo\/i=K.P\/vk.ownBlock=some i) wr DI:=(Lx.any.trans (WG.mono λ_ _ e=> .inl e)).trans (T0.mono λ_ _ e=> .inr e);have M9:∀i,(i=w.heap.size\/i=X\/i=b)->¬(i=bo\/i=K.P\/vk.ownBlock=some i):=hb.out.apart;have EL:=hb.out.box.fr R7 (M9 _ (.inl rfl));have kx10:=hb.out.xb.fr R7 (M9 _ (.inr (.inl rfl)));have kn10:=hb.out.nms.fr R7 (M9 _ (.inr (.inr rfl)));obtain⟨ab,ao,rfl,T1⟩:=HH.2.2.2.2.2.2.2.2.2.2.2 (by rw[<-HH.2.2.2.2.2.2.1,<-HL.2.1];omega);have TW:=TR.fr;have KT:=(ExR.keep (TW.same λi hi=>⟨HK.low i hi,id⟩) T1).drop kk;rw[HD.2.2.1]at KT;have QF:=zjJ kk HH.2.2.2.2.2.2.2.2.1 HD.2.2.1;have R8:=((hb.out.out.fr0 Lx.out).frT WG.out (λi hi e=>by have e:i=bo:=e;have:=yw.1;omega)).keep T0.out yy.out (by have:=hF.out.size;have:=HL.2.2.2;omega);have LR:kk<=ml:=by have h1:=HH.2.2.2.2.2.2.1;have h2:=HL.1;have h3:=HL.2.1;omega
    have Rv:ml<=c2:=by have h1:=HH.2.2.2.2.2.2.2.2.2.1;have h2:=HL.1;omega
    have JK:kk < ml:=by have h1:=HH.2.2.2.2.2.2.1;have h2:=HL.1;have h3:=HL.2.1;omega
    have Hw:0+1<=c2 - kk:=by omega
    have GX:c2 - kk<=9223372036854775807:=by have h1:=HH.2.2.2.2.2.2.2.2.2.2.1.1;omega
    have Mv:SlR (λb o=>ExR DI K.S False (.cons e0 e1 e2 e3 e4 .nil) b o) (Exs.cons e0 e1 e2 e3 e4 .nil).len 64 (some ⟨ab,ao+kk*5,none⟩) (c2 - kk):=
     ⟨Hw,⟨GX,by simp[Exs.len]⟩,λ_=>⟨ab,ao+kk*5,rfl,KT.1,KT.2.1,trivial⟩⟩
    have Zf:∀W,Fr NoT DI W->Calls Tryz.prog 85 #[.slice (some ⟨ab,ao+kk*5,none⟩) 1 (c2 - kk),.func (.func 86) #[.map (some b)] #[]] W λe w'=>∃A' c',e= .returned (.slice A' 1 c')/\SlR (λb o=>ExR w' (New W.heap.size w') True (zar n (.cons e0 e1 e2 e3 e4 .nil)) b o) 1 64 A' c'/\Fr NoT W w':=λW hf=>zfd (.cons e0 e1 e2 e3 e4 .nil) W K.S (some ⟨ab,ao+kk*5,none⟩) (c2 - kk) n b q (kn10.fr hf id) (λi hi=>ltq (ltq (HK.low i hi) TW.size) hf.size) ⟨QF.1,QF.2,trivial⟩ (Mv.imp λ_ _ h=>ExR.keep (hf.same λi hi=>⟨ltq (HK.low i hi) TW.size,id⟩) h);have z2:=EL.cell 2;have z6:=EL.cell 6;have zl:=EL.lt;simp only[getsL]at z2 z6;have kN:=hdq Zf;have WH:=hdq R8;have yz:=hdq EL;have yA:=hdq kx10;have yB:=hdq kn10;have kO:=hdq R7;have xS:=hdq (aiq LR Rv);have kP:IntKind.i64.wrap ((kk:Int)+1)=(kk:Int)+1:=IntWalk.i64_in _ (by omega);have Hm:(0:Int)<=(kk:Int)+1:=by omega
    have Fy:(kk:Int)+1<=(c2:Int):=by omega
    have GK:((kk:Int)+1).toNat =kk+1:=by omega
    have Hk:¬c2=kk:=by omega
    clear Hw GX JK;clear Zf R8 EL kx10 kn10 R7 Mv TW KT QF M9;go_wp2_with fail;refine zad (λW'=>w.heap.size < W'.heap.size/\W'.cell? ⟨w.heap.size,2,none⟩=some (.slice (some ⟨ab,ao,none⟩) ml c2)/\W'.cell? ⟨w.heap.size,6,none⟩=some (.int .i64 at_)) (λi=>decide (i < 16)) (by kernel_rfl) ⟨zl,z2,z6⟩ (λhHeld=>?_);refine zaa 0 ?_;simp only[putsL];refine zaa 1 ?_;simp only[putsL];refine zaa 2 ?_;simp only[putsL];refine zaa 4 ?_;simp only[putsL];refine zaa 5 ?_;simp only[putsL];refine zaa 6 ?_;simp only[putsL];refine zaa 8 ?_;simp only[putsL];refine zaa 9 ?_;simp only[putsL];refine zaa 11 ?_;simp only[putsL];refine zaz 3 hHeld ?_;simp only[putsL];refine zaz 12 hHeld ?_;simp only[putsL];refine zaa 7 ?_;simp only[putsL];refine zab 10 rfl (by kernel_rfl) (λKK hK=>?_);go_simp;go_at_call 85;refine(kN _ ((Fr.refl NoT DI).drew)).mono ?_;rintro _ DO ⟨A',c',rfl,U3,NG⟩;have FC:Fr NoT DI DO:=((Fr.refl NoT DI).drew).trans NG;have WI:w.heap.size < DO.heap.size/\DO.cell? ⟨w.heap.size,2,none⟩=some (.slice (some ⟨ab,ao,none⟩) ml c2)/\DO.cell? ⟨w.heap.size,6,none⟩=some (.int .i64 at_):=⟨ltq zl FC.size,(FC.cell (p:=⟨w.heap.size,2,none⟩) zl id).trans z2,(FC.cell (p:=⟨w.heap.size,6,none⟩) zl id).trans z6⟩;have NX:=hdq FC;have Zg:=hdq U3;clear hHeld U3 FC NG;try dsimp only
    refine hK _ _ (λ_ _=>WI) ?_;clear hK KK;have hHeld:=WI;clear WI;try simp only[putsL]
    refine zaa 13 ?_;simp only[putsL];refine zab 14 rfl (by kernel_rfl) (λKK hK=>?_);go_simp;obtain⟨DN,T2⟩:=nmq (DO.alloc (.cells #[.int .u8 2,.string nw,.slice A' 1 c',.slice none 0 0,.slice none 0 0,.slice none 0 0,.int .i64 at_] 39));rw[<-T2];have FV:Fr NoT DO DN:=by rw[T2];exact(Fr.refl _ _).alloc _
    have T3:Bk DN DO.heap.size 39 ([.int .u8 2,.string nw,.slice A' 1 c',.slice none 0 0,.slice none 0 0,.slice none 0 0,.int .i64 at_]:List Value).toArray :=by rw[T2];exact Bk.new _ _ _
    have MK:w.heap.size < DN.heap.size/\DN.cell? ⟨w.heap.size,2,none⟩=some (.slice (some ⟨ab,ao,none⟩) ml c2)/\DN.cell? ⟨w.heap.size,6,none⟩=some (.int .i64 at_):=⟨ltq hHeld.1 FV.size,(FV.cell (p:=⟨w.heap.size,2,none⟩) hHeld.1 id).trans hHeld.2.1,(FV.cell (p:=⟨w.heap.size,6,none⟩) hHeld.1 id).trans hHeld.2.2⟩;have PU:=hdq ((WH.fr0 NX.out).fr0 FV);have Zh:=hdq FV;have Na:=hdq T3;clear T2 FV T3 hHeld;try dsimp only
    refine hK _ _ (λ_ _=>MK) ?_;clear hK KK;try simp only[putsL]
    refine zab 15 rfl (by kernel_rfl) (λKK hK=>?_);refine step_append_lies _ (by rfl) _ _ _ (by rfl) wc.heap.size 39 i0 (.agg zdx) 7 128 Tryz.underlying25 HI.1 HI.2.1 HI.2.2.1 HI.2.2.2 rfl (by decide) u6 acc.length cs (by rfl) PU.row
     ⟨DO.heap.size,0,none⟩ 1 1 _ (by rfl) (by rfl) Na.newsL (by simp[Value.oneCell']) (by omega) ?d63 ?dby ?dba _ rfl ?_
    case d63=>have:=hb.out.many;unfold maxLen;omega
    case dby=>have:=hb.out.many;omega
    case dba=>
     have h1:=hb.out.sz;have h2:=kO.size;have h3:=NX.size;have h4:=Zh.size;omega
    intro gg2 E2 DQ R9 KU Jv Zi;have Zj:w.heap.size < DQ.heap.size/\DQ.cell? ⟨w.heap.size,2,none⟩=some (.slice (some ⟨ab,ao,none⟩) ml c2)/\DQ.cell? ⟨w.heap.size,6,none⟩=some (.int .i64 at_):=by
     have GU:some w.heap.size≠u6.ownBlock:=λe=>by
      have h1:=(zaf PU.row e.symm).1;have h2:=hF.out.size;have h3:=HL.2.2.2.1;omega
     exact⟨ltq MK.1 KU.size,(KU.cell_far ⟨w.heap.size,2,none⟩ MK.1 GU).trans MK.2.1,(KU.cell_far ⟨w.heap.size,6,none⟩ MK.1 GU).trans MK.2.2⟩
    try dsimp only
    refine hK _ _ (λ_ _=>Zj) ?_;clear hK KK MK Zj;try simp only[putsL]
    refine zab 16 rfl (by kernel_rfl) (λKK hK=>?_);go_simp;refine hK _ _ (λh=>absurd h (by decide)) ?_;clear hK KK;try simp only[putsL]
    refine zai (by kernel_rfl) ?_;have F8:=hdq (CaSt.next hb.out (by have h1:=hF.out.size;have h2:=HL.2.2.2;have h3:=hN.out;have h4:=hO.out.lt;have h5:=hX.out.lt;have h6:=HH.1.fr.size;have h7:=yw.1;refine⟨?_,?_,?_,?_,?_,?_,?_,?_⟩<;>omega) Lx.out WG.out xR.out TR.out T0.out yy.out NX.out Zg.out Zh.out PU.out R9 KU Jv HD.1 HD.2.1 HD.2.2.1 ME.out Lp.out R5);clear R9 KU Jv Zi hb;go_wp2_with fail;go_roundw;case rel=>exact⟨kk+1,by omega,by go_num,_,_,_,_,_,F8⟩
    case measure=>simp[intOf];omega
   ·have Hl:¬(kk:Int) < (pl:Int):=by omega
    have xT:kk=pl:=by omega
    obtain⟨Ao,co,rfl,_⟩:=zba hb.out.out.row;have g3:=hb.out.st.bk.cell 3;have f3:=hb.out.st.bk.frozen 3;have l3:=hb.out.st.bk.lt;have x2:=hb.out.xb.cell 2;have xl2:=hb.out.xb.lt;simp only[getsL]at g3 x2;obtain⟨mn,Q7⟩:=nmq s.many;obtain⟨al,Jh⟩:=nmq acc.length;rw[<-Q7]at g3;have Ja:mn<=256:=by
     have h2:=HH.2.2.1;unfold zaT at h2;simp only[Bool.or_eq_false_iff,decide_eq_false_iff_not]at h2;omega
    have QG:al=pl+1:=by have:=hb.out.many;omega
    have Zk:al<=5:=by omega
    have xU:K.P≠X:=WC;obtain⟨EM,T4⟩:=nmq (wr.setCell ⟨K.P,3,none⟩ (.int .i64 ((mn:Int)+(al:Int))));have XN:InAt K EM ⟨s.calls+1,vs,s.many+al⟩ vk:=by
     rw[T4,Q7];exact hb.out.st.set 3 _ (by simp) rfl ⟨by show s.many+al<=261;omega,by show s.calls+1<=s.many+al+1;have:=HH.2.1;omega⟩
    have ML:Fr (λi=>i=K.P) wr EM:=by rw[T4];exact Fr.own (Fr.refl _ _) _ _
    have x20:=hb.out.xb.fr ML (λe=>WC e.symm);have KV:=Ye EM ⟨s.calls+1,vs,s.many+al⟩ vk o bo kk pB pe XN (by show s.calls+1<=s.many+al;have:=HH.2.1;omega) (hb.out.own.fr ML (λe=>hb.out.bP e)) ⟨hb.out.bP,λe=>by have:=HN.out;have:=HL.2.2.2;omega,λe=>hb.out.vbo bo e rfl⟩ HP.2.1;rw[<-HL.2.2.1]at KV;have KV:=hdq KV;have kQ:=hdq T4;have Dy:=hdq XN;have Mf:=hdq ML;have WJ:=hdq (aiq Q7 (aiq Jh QG));rw[<-Jh];clear T4 XN ML Q7 Jh QG x20;go_wp2_with fail;rw[<-kQ.out];refine KV.mono ?_;rintro _ w21 ⟨v2,vo2,D7,Ez,rfl,QH,NY,J4,Lc,Ka,Mg,Nb⟩;have Zl:K.P < wc.heap.size:=by have:=hF.out.size;have:=HL.2.2.2;omega
    have U4:Fr (λi=>i=K.P\/vk.ownBlock=some i) wr EM:=Mf.mono λ_ _ e=> .inl e;have JR:=(hb.out.out.keep U4 (SpotP.refl _ _) Zl).keep Lc Ka Zl;rw[<-WJ.2.1]at JR;have Sa:wc.heap.size<=EM.heap.size:=leq9 hb.out.sz Mf.size;have WK:wc.heap.size<=w21.heap.size:=leq9 Sa Lc.size;have Fx:∀i,(Value.slice Ao al co).ownBlock =some i->i < EM.heap.size:=λi hi=>by
     have h9:=hb.out.out.row;rw[<-WJ.2.1]at h9;exact ltq (zaf h9 hi).2 Mf.size
    have Sb:∀i,v2.ownBlock=some i->i < w21.heap.size:=λi hi=>by obtain⟨c9,h9,_⟩:=QH.row;exact(zaf h9 hi).2
    have Sc:acc.length+D7.length<=1000000:=by have h8:=WJ.2.1;have h9:=QH.most.1;simp only at Mg;omega
    have Nu:=hdq (aiq JR (aiq NY (aiq Fx Sb)));have kR:=hdq (aiq QH (aiq J4 (aiq Lc (aiq Ka (aiq Mg Nb)))));clear JR NY Fx Sb QH J4 Lc Ka Mg Nb U4;go_wp2_with (at_builtin;refine zcb rfl _ _ rfl rfl rfl Nu.1 Nu.2.1 Sa Nu.2.2.1 WK Sc Nu.2.2.2 ?_);intro vo3 w22 NZ Sd Se;have PV:=hdq (aiq NZ Sd);clear NZ Sd Se;go_wp2_with fail;go_ret;obtain⟨QH,J4,Lc,Ka,Mg,Nb⟩:=kR.out;have MM:w.heap.size<=wc.heap.size:=by have:=hF.out.size;have:=HL.2.2.2;omega
    have XO:x.params.drop kk= []:=List.drop_eq_nil_iff.2 (by have:=HL.2.1;omega);have WL:o=ownN x.nm (s.calls+1) x.params λ_=>none:=by have:=hb.out.names;rw[XO]at this;exact this
    have Qc:vs=s.vars++x.params.map λv=>(⟨parN x.nm (s.calls+1) v.nm,v.at_⟩:Va):=by have:=hb.out.vars;rw[XO]at this;simp only[List.map_nil,List.append_nil]at this;exact this
    have Jh:al=x.params.length+1:=by have h1:=WJ.2.2;have h2:=HL.2.1;omega
    have GR:zcR K.procs stm nm args n at_ s=(Sts.app (zao acc) (stm x.body o ⟨s.calls+1,vs,s.many+al⟩).1,(stm x.body o ⟨s.calls+1,vs,s.many+al⟩).2):=by
     unfold zcR;rw[HH.2.2.2.2.2.1];have he:=hb.out.eq;rw[XO]at he;have Kw:∀y:Sts,Sts.app y .nil =y:=zcj;have Ky:zao acc= .cons 1 ⟨#[]⟩ .nil .nil .nil .nil at_ (zby x.nm (s.calls+1) n at_ x.params args):=by
      rw[<-he];cases hE:Exs.drop kk args<;>simp only[zby,Kw]
     simp only[Ky,WL,Qc,Jh]
    rw[GR];have Li:Fr (InT K v) w w22:=by
     have h1:=Fr.thenT hb.out.fr (Mf.out) λi _ (e:i=K.P)=>(Or.inl e:InT K v i);have h2:=Fr.thenT h1 Lc λi hi e=>by
      rcases e with e|e
      ·exact Or.inl e
      ·rcases hb.out.spot with k9|⟨g9,k9,FI⟩
       ·exact Or.inr (k9▸e)
       ·rw[k9]at e;have:=Option.some.inj e;omega
     exact Fr.thenT h2 PV.2 λi hi e=>by have:=(zaf Nu.1.row e).1;omega
    refine⟨v2,vo3,acc++D7,_,rfl,?_,PV.1.lower MM,?_,Li,hb.out.spot.trans (Ka) (leq9 hb.out.fr.size Mf.size),?_,Nb⟩
    ·exact QH.frT PV.2 (λi hi=>by have h8:=(zaf Nu.1.row hi).1;have h9:=HH.1.fr.size;have:=hF.out.size;omega) (λe=>by have:=(zaf Nu.1.row e).1;omega) (λe=>by have:=(zaf Nu.1.row e).1;have:=HL.2.2.2;omega) (λi hi e=>Nu.1.ne i e hi)
    ·rw[zbb,<-J4]
    ·rw[List.length_append];have h8:=WJ.2.1;simp only at Mg ⊢;omega
