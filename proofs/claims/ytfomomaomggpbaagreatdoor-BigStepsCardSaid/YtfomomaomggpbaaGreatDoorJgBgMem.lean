/- big: a run in memory; what closures are given, and what they leave. -/
import Derived.Test.YtfomomaomggpbaaGreatDoorJgFg2
set_option linter.all false
set_option maxRecDepth 100000
namespace Go.Proofs.YtfomomaomggpbaaGreatDoor
open Go.RowKit Go.Shelf
structure BgC where
 n:Bn
 B:Nat
 L:Nat
 T:Nat
 R:Nat
 V:Nat
 P:Nat
 MA:Nat
 MP:Nat
 A:Option Addr
 c:Nat
 bs:List Nat
 zs:List Nat
def BgC.Mut (C:BgC)(b:Nat):Prop:=b=C.R\/b=C.V\/b∈C.bs\/b=C.MP
def BgC.MutO (C:BgC)(oc:List Nat)(b:Nat):Prop:=C.Mut b\/b∈oc
structure BgC.Ok (C:BgC):Prop where
 bl:C.B<=C.L
 br:C.B<=C.R
 bm:C.B<=C.MP
 rT:C.R < C.T
 vT:C.V < C.T
 bT:∀b∈C.bs,C.T > b
 mT:C.MP < C.T
 pT:C.P < C.T
 aT:C.MA < C.T
 rv:C.R≠C.V
 rb:C.R∉C.bs
 row:∀(n:Nat) b,(Value.slice C.A n C.c).ownBlock =some b->b < C.T/\b≠C.R
 pn:¬C.Mut C.P
 an:¬C.Mut C.MA
def runV (C:BgC)(As:Option Addr)(cs:Nat)(s:Bs):Array Value:= #[.slice As s.script.length cs,.int .u8 0,.int .u8 0,.int .i64 0,.int .i64 0,.int .i64 0,.int .i64 s.left,.slice (some ⟨C.V,0,none⟩) s.vs.length s.vs.length,.slice C.A s.ls.length C.c]
structure BgSt (C:BgC)(oc:List Nat)(s:Bs)(w:World):Prop where
 run:∃As cs,IsSl w C.B s.script As cs/\Bk w C.R 68 (runV C As cs s)
 sto:Sto w C.L s.vs s.ls C.V C.A C.c C.bs
 len:s.own.length=oc.length
 own:∀(i b:Nat)(x:Int),oc[i]?=some b->s.own[i]?=some x->Bk w b 3 #[.int .i64 x]
 nd:oc.Nodup
 top:∀b∈oc,C.T<=b
 oi:∀x∈s.own,is64 x
 lf:s.left<=65536
 nv:s.vs.length=C.n.vars.length
 na:s.ls.length=C.n.arrs.length
 az:s.ls.map List.length=C.zs
section
variable {C:BgC} {oc:List Nat} {s t:Bs} {w w':World}
theorem BgSt.size (h:BgSt C oc s w)(ho:C.Ok):C.B<=w.heap.size:=by
 obtain⟨_,_,_,hb⟩:=h.run;have:=hb.lt;have:=ho.br;omega
theorem BgSt.ol (h:BgSt C oc s w):∀b∈oc,b < w.heap.size:=by
 intro b hb;obtain⟨i,hi⟩:=List.mem_iff_getElem?.1 hb;have hl:i < s.own.length:=by rw[h.len];exact(List.getElem?_eq_some_iff.1 hi).1
 exact(h.own i b _ hi (List.getElem?_eq_getElem hl)).lt
theorem BgSt.fr (h:BgSt C oc s w)(ho:C.Ok){T:Nat->Prop}(hf:Fr T w w')(h1:¬T C.R)(h2:¬T C.V)(h3:∀b∈C.bs,¬T b)(h4:∀b,(Value.slice C.A s.ls.length C.c).ownBlock =some b->¬T b)(h5:∀b∈oc,¬T b)(h6:∀b,b < C.B->¬T b):BgSt C oc s w':=by
 obtain⟨As,cs,hs,hb⟩:=h.run;refine⟨⟨As,cs,hs.keep λp hp=>?_,hb.fr hf h1⟩,h.sto.fr hf h2 h3 h4,h.len,λi b x hi hx=>(h.own i b x hi hx).fr hf (h5 b (List.mem_of_getElem? hi)),h.nd,h.top,h.oi,h.lf,h.nv,h.na,h.az⟩;exact hf.cell (ltq hp (h.size ho)) (h6 _ hp)
theorem BgSt.fr0 (h:BgSt C oc s w)(ho:C.Ok)(hf:Fr NoT w w'):BgSt C oc s w':=h.fr ho hf id id (λ_ _=>id) (λ_ _=>id) (λ_ _=>id) λ_ _=>id
theorem zoJ (ho:C.Ok){b:Nat}(hb:b < C.B):b≠C.R:=λe=>by have:=ho.br;omega
theorem BgSt.turn (h:BgSt C oc s w)(ho:C.Ok)(hf:Fr (λb=>b=C.R) w w')(hv:t.vs=s.vs)(hl:t.ls=s.ls)(hw:t.own=s.own)(Xl:t.left<=65536){As:Option Addr}{cs:Nat}(hs:IsSl w C.B t.script As cs)(hb:Bk w' C.R 68 (runV C As cs t)):BgSt C oc t w':=by
 have FZ:Same C.B w w':=λp hp=>hf.cell (ltq hp (h.size ho)) (zoJ ho hp);refine⟨⟨As,cs,hs.keep FZ,hb⟩,?_,by rw[hw];exact h.len,λi b x hi hx=>(h.own i b x hi (by rw[<-hw];exact hx)).fr hf λe=>?_,h.nd,h.top,by rw[hw];exact h.oi,Xl,by rw[hv];exact h.nv,by rw[hl];exact h.na,by rw[hl];exact h.az⟩
 ·rw[hv,hl];exact h.sto.fr hf (λe=>ho.rv e.symm) (λb hb e=>ho.rb (by have e:b=C.R:=e;exact e▸hb)) λb hb e=>(ho.row _ b hb).2 e
 ·have e:b=C.R:=e;have h1:=h.top b (List.mem_of_getElem? hi);have h2:=ho.rT;omega
theorem BgSt.step (h:BgSt C oc s w)(ho:C.Ok){m:Nat}(hm:s.left=m+1):BgSt C oc {s with left:=m} (w.setCell ⟨C.R,6,none⟩ (.int .i64 m)):=by
 obtain⟨As,cs,hs,hb⟩:=h.run;refine h.turn ho (Fr.own (Fr.refl _ _) _ _) rfl rfl rfl (by have:=h.lf;show m<=_;omega) hs ?_;have:=hb.set_ 6 (.int .i64 m);simpa[runV]using this
theorem BgSt.read (h:BgSt C oc s w)(ho:C.Ok){q:List Int}{As yt:Option Addr}{cs yf:Nat}(hb:Bk w C.R 68 (runV C As cs s))(hs:IsSl w C.B q yt yf):
  BgSt C oc {s with script:=q} (w.setCell ⟨C.R,0,none⟩ (.slice yt q.length yf)):=by
 refine h.turn ho (Fr.own (Fr.refl _ _) _ _) rfl rfl rfl h.lf hs ?_;have:=hb.set_ 0 (.slice yt q.length yf);simpa[runV]using this
theorem BgSt.setV (h:BgSt C oc s w)(ho:C.Ok)(i:Nat){x:Int}(hx:is64 x):BgSt C oc {s with vs:=s.vs.set i x} (w.setCell ⟨C.V,i,none⟩ (.int .i64 x)):=by
 obtain⟨As,cs,hs,hb⟩:=h.run;obtain⟨Fc,hf⟩:=h.sto.setV i hx;refine⟨⟨As,cs,hs.keep λp hp=>hf.cell (ltq hp (h.size ho)) λe=>?_,?_⟩,Fc,h.len,λi b y hi hy=>(h.own i b y hi hy).fr hf λe=>?_,h.nd,h.top,h.oi,h.lf,by simpa using h.nv,h.na,h.az⟩
 ·have e:p.block=C.V:=e;have h1:=h.sto.vl;have h2:=ho.bl;omega
 ·have:=hb.fr hf ho.rv;simpa[runV]using this
 ·have e:b=C.V:=e;have h1:=h.top b (List.mem_of_getElem? hi);have h2:=ho.vT;omega
theorem BgSt.bgSetO (h:BgSt C oc s w)(ho:C.Ok){i b:Nat}(hb:oc[i]?=some b){x:Int}(hx:is64 x):BgSt C oc {s with own:=s.own.set i x} (w.setCell ⟨b,0,none⟩ (.int .i64 x)):=by
 have hf:Fr (λy=>y=b) w (w.setCell ⟨b,0,none⟩ (.int .i64 x)):=Fr.own (Fr.refl _ _) _ _;have hT:=h.top b (List.mem_of_getElem? hb);have M0:i < s.own.length:=by rw[h.len];exact(List.getElem?_eq_some_iff.1 hb).1
 obtain⟨As,cs,hs,hk⟩:=h.run;refine⟨⟨As,cs,hs.keep λp hp=>hf.cell (ltq hp (h.size ho)) λe=>?_,hk.fr hf λe=>?_⟩,h.sto.fr hf (λe=>?_) (λb' FJ e=>?_) (λb' FJ e=>?_),by simpa using h.len,λj b' y hj hy=>?_,h.nd,h.top,zfp h.oi i hx,h.lf,h.nv,h.na,h.az⟩
 ·have e:p.block=b:=e;have h1:=ho.br;have h2:=ho.rT;omega
 ·have e:C.R=b:=e;have h2:=ho.rT;omega
 ·have e:C.V=b:=e;have h2:=ho.vT;omega
 ·have e:b'=b:=e;have h2:=ho.bT b' FJ;omega
 ·have e:b'=b:=e;have h2:=(ho.row _ b' FJ).1;omega
 ·by_cases e:i=j
  ·subst e;rw[hb]at hj;obtain rfl:=Option.some.inj hj;rw[List.getElem?_set_self M0]at hy;obtain rfl:=Option.some.inj hy;have:=(h.own i b _ hb (List.getElem?_eq_getElem M0)).set_ 0 (.int .i64 x);simpa using this
  ·rw[List.getElem?_set_ne e]at hy;refine(h.own j b' y hj hy).fr hf λe'=>e ?_;have e':b'=b:=e';subst e';obtain⟨p1,p2⟩:=List.getElem?_eq_some_iff.1 hb;obtain⟨p3,p4⟩:=List.getElem?_eq_some_iff.1 hj;exact(List.getElem_inj h.nd).1 (p2.trans p4.symm)
theorem zg6 {ls:List (List Int)}{i:Nat}{l:List Int}(hl:ls[i]?=some l)(j:Nat)(x:Int):(ls.set i (l.set j x)).map List.length=ls.map List.length:=by
 apply List.ext_getElem?;intro k;rw[List.getElem?_map,List.getElem?_map,List.getElem?_set];by_cases e:i=k
 ·subst e;have hi:=(List.getElem?_eq_some_iff.1 hl).1;rw[if_pos rfl,if_pos hi,hl];simp
 ·rw[if_neg e]
theorem BgSt.setA (h:BgSt C oc s w)(ho:C.Ok){i b:Nat}{l:List Int}(hb:C.bs[i]?=some b)(hl:s.ls[i]?=some l)(j:Nat){x:Int}(hx:is64 x):BgSt C oc {s with ls:=s.ls.set i (l.set j x)} (w.setCell ⟨b,j,none⟩ (.int .i64 x)):=by
 obtain⟨As,cs,hs,hk⟩:=h.run;obtain⟨Fc,hf⟩:=h.sto.setA hb hl j hx;have Vm:=List.mem_of_getElem? hb;have hL:=(h.sto.each i b l hb hl).1;refine⟨⟨As,cs,hs.keep λp hp=>hf.cell (ltq hp (h.size ho)) λe=>?_,?_⟩,Fc,h.len,λk b' y hi hy=>(h.own k b' y hi hy).fr hf λe=>?_,h.nd,h.top,h.oi,h.lf,h.nv,by simpa using h.na,by rw[<-h.az];exact zg6 hl j x⟩
 ·have e:p.block=b:=e;have h2:=ho.bl;omega
 ·have:=hk.fr hf λe=>ho.rb (by have e:C.R=b:=e;rw[e];exact Vm);simpa[runV]using this
 ·have e:b'=b:=e;have h1:=h.top b' (List.mem_of_getElem? hi);have h2:=ho.bT b Vm;omega
theorem BgSt.owns (h:BgSt C oc s w){za:List Nat}{xs:List Int}(h1:xs.length=za.length)(h2:∀(i b:Nat)(x:Int),za[i]?=some b->xs[i]?=some x->Bk w b 3 #[.int .i64 x])(h3:za.Nodup)(h4:∀b∈za,C.T<=b)(h5:∀x∈xs,is64 x):BgSt C za {s with own:=xs} w:=
 ⟨h.run,h.sto,h1,h2,h3,h4,h5,h.lf,h.nv,h.na,h.az⟩
end
structure PgAt (C:BgC)(w:World):Prop where
 p:Bk w C.P 73 #[.pointer (some ⟨C.R,0,none⟩),.map (some C.MA),.map (some C.MP)]
 ma:∃N f,MpV w C.MA N f/\∀nm i,posI C.n.arrs nm=some i->∃b,C.bs[i]?=some b/\∀(s:Bs)(oc:List Nat)(W:World)(l:List Int),BgSt C oc s W->s.ls[i]?=some l->f nm=some (.slice (some ⟨b,0,none⟩) l.length l.length)
def SameK (T lo hi:Nat)(w w':World):Prop:=w.heap.size<=w'.heap.size/\∀i,(i < T\/lo<=i/\i < hi)->w'.heap[i]?=w.heap[i]?
structure Later (C:BgC)(lo hi:Nat)(w W:World):Prop where
 size:hi<=W.heap.size/\C.T<=W.heap.size
 block:∀i,(i < C.T\/lo<=i/\i < hi)->¬C.Mut i->W.heap[i]?=w.heap[i]?
section
variable {C:BgC} {oc:List Nat} {s t:Bs} {w W W':World} {lo hi yu L9:Nat}
theorem Later.refl (h1:hi<=w.heap.size)(h2:C.T<=w.heap.size):Later C lo hi w w:=⟨⟨h1,h2⟩,λ_ _ _=>rfl⟩
theorem Later.trans (h:Later C lo hi w W)(k:Later C lo hi W W'):Later C lo hi w W':=⟨k.size,λi hi hn=>(k.block i hi hn).trans (h.block i hi hn)⟩
theorem Later.run (h:Later C lo hi w W)(hf:Fr (C.MutO oc) W W')(ho:∀b∈oc,hi<=b/\C.T<=b):Later C lo hi w W':=
 ⟨⟨leq9 h.size.1 hf.size,leq9 h.size.2 hf.size⟩,λi hi hn=>(hf.block i (by have:=h.size;omega) λe=>e.elim hn λhm=>by have:=ho i hm;omega).trans (h.block i hi hn)⟩
theorem Later.of (hf:Fr C.Mut w W)(h1:hi<=w.heap.size)(h2:C.T<=w.heap.size):Later C lo hi w W:=⟨⟨leq9 h1 hf.size,leq9 h2 hf.size⟩,λi hi hn=>hf.block i (by omega) hn⟩
theorem Later.of0 (hf:Fr NoT w W)(h1:hi<=w.heap.size)(h2:C.T<=w.heap.size):Later C lo hi w W:=Later.of hf.any h1 h2
theorem Later.thin (h:Later C lo hi w W)(h1:lo<=yu)(h2:L9<=hi):Later C yu L9 w W:=⟨⟨leq9 h2 h.size.1,h.size.2⟩,λi hi hn=>h.block i (by omega) hn⟩
theorem Later.bk (h:Later C lo hi w W){g:Nat}{ty:TypeId}{cs:Array Value}(hb:Bk w g ty cs)(hg:lo<=g/\g < hi)(hn:¬C.Mut g):Bk W g ty cs:=(h.block g (.inr hg) hn).trans hb
theorem Later.bkT (h:Later C lo hi w W){g:Nat}{ty:TypeId}{cs:Array Value}(hb:Bk w g ty cs)(hg:g < C.T)(hn:¬C.Mut g):Bk W g ty cs:=(h.block g (.inl hg) hn).trans hb
theorem Later.far (h1:hi<=w.heap.size)(h2:C.T<=w.heap.size){g:Nat}(hg:C.T<=g/\(g < lo\/hi<=g))(i:Nat)(u:Value):Later C lo hi w (w.setCell ⟨g,i,none⟩ u):=
 ⟨⟨by simpa using h1,by simpa using h2⟩,λj hj _=>Below.heap_setCell w _ u j λe=>by have e:j=g:=e;omega⟩
theorem Later.same (hs:SameK C.T lo hi w W)(h1:hi<=w.heap.size)(h2:C.T<=w.heap.size):Later C lo hi w W:=⟨⟨leq9 h1 hs.1,leq9 h2 hs.1⟩,λi hi _=>hs.2 i hi⟩
theorem MpV.later (h:Later C lo hi w W){b n:Nat}{f:List UInt8->Option Value}(hm:MpV w b n f)(hb:b < C.T)(hn:¬C.Mut b):MpV W b n f:=by
 obtain⟨D,Hb,hD⟩:=hm;obtain⟨es,clock,hk,F,hs,e⟩:=Hb;exact⟨D,⟨es,clock,(h.block b (.inl hb) hn).trans hk,F,hs,e⟩,hD⟩
theorem PgAt.later (h:PgAt C w)(ho:C.Ok)(hl:Later C lo hi w W):PgAt C W:=by
 obtain⟨N,f,h1,h2⟩:=h.ma;exact⟨hl.bkT h.p ho.pT ho.pn,N,f,h1.later hl ho.aT ho.an,h2⟩
theorem zgw (ho:C.Ok){b:Nat}(hb:C.T<=b):¬C.Mut b:=by
 have h1:=ho.rT;have h2:=ho.vT;have h3:=ho.mT;rintro(e|e|e|e)
 ·omega
 ·omega
 ·have:=ho.bT b e;omega
 ·omega
end
structure ScAt (C:BgC)(ps:List (List UInt8))(oc:List Nat)(nb left:Nat)(w:World):Prop where
 map:∃N f,MpV w nb N f/\N+left<=1000000/\(∀nm i,posI C.n.vars nm=some i->f nm=some (.pointer (some ⟨C.V,i,none⟩)))/\∀nm k,posI ps nm=some k->∃b,oc[k]?=some b/\f nm=some (.pointer (some ⟨b,0,none⟩))
 ap:∀nm k,posI ps nm=some k->posI C.n.vars nm=none
 out:¬C.MutO oc nb
structure RunAt (C:BgC)(lo hi:Nat)(w W:World)(ps:List (List UInt8))(oc:List Nat)(nb:Nat)(s:Bs):Prop where
 lat:Later C lo hi w W
 new:∀b∈oc,hi<=b
 st:BgSt C oc s W
 sc:ScAt C ps oc nb s.left W
section
variable {C:BgC} {ps:List (List UInt8)} {oc:List Nat} {nb:Nat} {s t:Bs} {w w1 W W':World} {lo hi yu L9:Nat}
theorem ScAt.next {m m':Nat}(h:ScAt C ps oc nb m W)(hf:Fr (C.MutO oc) W W')(hm:m'<=m):ScAt C ps oc nb m' W':=by
 obtain⟨N,f,h1,h2,h3⟩:=h.map;exact⟨⟨N,f,h1.fr hf h.out,by omega,h3⟩,h.ap,h.out⟩
theorem RunAt.next (h:RunAt C lo hi w W ps oc nb s)(hf:Fr (C.MutO oc) W W')(ht:BgSt C oc t W')(hl:t.left<=s.left):RunAt C lo hi w W' ps oc nb t:=⟨h.lat.run hf λb hb=>⟨h.new b hb,h.st.top b hb⟩,h.new,ht,h.sc.next hf hl⟩
theorem RunAt.fr0 (h:RunAt C lo hi w W ps oc nb s)(ho:C.Ok)(hf:Fr NoT W W'):RunAt C lo hi w W' ps oc nb s:=h.next hf.any (h.st.fr0 ho hf) (lrq _)
theorem RunAt.early (h:RunAt C lo hi w W ps oc nb s)(hl:Later C lo hi w1 w):RunAt C lo hi w1 W ps oc nb s:=⟨hl.trans h.lat,h.new,h.st,h.sc⟩
theorem RunAt.thin (h:RunAt C lo hi w W ps oc nb s)(h1:lo<=yu)(h2:L9<=hi):RunAt C yu L9 w W ps oc nb s:=⟨h.lat.thin h1 h2,λb hb=>leq9 h2 (h.new b hb),h.st,h.sc⟩
theorem RunAt.bk (h:RunAt C lo hi w W ps oc nb s)(ho:C.Ok)(hT:C.T<=lo){g:Nat}{ty:TypeId}{cs:Array Value}(hb:Bk w g ty cs)(hg:lo<=g/\g < hi):Bk W g ty cs:=h.lat.bk hb hg (zgw ho (leq9 hT hg.1))
def Bx (lo hi:Nat)(w:World)(g:Nat)(ty:TypeId)(cs:Array Value):Prop:=Bk w g ty cs/\lo<=g/\g < hi
theorem RunAt.bx (h:RunAt C lo hi w W ps oc nb s)(ho:C.Ok)(hT:C.T<=lo){g:Nat}{ty:TypeId}{cs:Array Value}(hb:Bx lo hi w g ty cs):Bk W g ty cs:=h.bk ho hT hb.1 hb.2
end
def endE (h:Ho):Ending:= .panicked [{v:= .iface 85 (.agg #[.int .u8 h.kind,.int .u8 h.wrong,.int .i64 h.at_]),recovered:=false}]
def zhM:Ho ⊕ Int->Ending->Prop
 | .inl h,e=>e=endE h
 | .inr x,e=>e= .returned (.int .i64 x)/\is64 x
def zb8:Ho ⊕ Bool->Ending
 | .inl h=>endE h
 | .inr b=> .returned (.bool b)
def zem:Option Ho->Ending
 |some h=>endE h
 |none=> .returned (.tuple #[])
def ValQ (r:Ho ⊕ Int)(W:World)(e:Ending)(w':World):Prop:=zhM r e/\Fr NoT W w'
def TruQ (C:BgC)(oc:List Nat)(s:Bs)(r:(Ho ⊕ Bool)×Nat)(W:World)(e:Ending)(w':World):Prop:=e=zb8 r.1/\BgSt C oc {s with left:=r.2} w'/\Fr (λb=>b=C.R) W w'
def DoQ (C:BgC)(oc:List Nat)(h:Option Ho)(t:Bs)(W:World)(e:Ending)(w':World):Prop:=e=zem h/\BgSt C oc t w'/\Fr (C.MutO oc) W w'
def ValP (C:BgC)(ps:List (List UInt8))(val:Value)(X:Bs->Ho ⊕ Int)(lo hi:Nat)(w:World):Prop:=
 ∃g caps,val= .func (.func g) #[] caps/\Enters Tryz.prog g/\∀W oc nb s,RunAt C lo hi w W ps oc nb s->Calls Tryz.prog g (#[.map (some nb)]++caps) W (ValQ (X s) W)
def TruP (C:BgC)(ps:List (List UInt8))(val:Value)(X:Bs->Tru)(lo hi:Nat)(w:World):Prop:=
 ∃g caps,val= .func (.func g) #[] caps/\Enters Tryz.prog g/\∀W oc nb s,RunAt C lo hi w W ps oc nb s->Calls Tryz.prog g (#[.map (some nb)]++caps) W (TruQ C oc s (X s s.left) W)
def DoP (C:BgC)(ps:List (List UInt8))(val:Value)(D:Bs->Option Ho->Bs->Prop)(lo hi:Nat)(w:World):Prop:=
 ∃g caps,val= .func (.func g) #[] caps/\Enters Tryz.prog g/\∀W oc nb s h t,RunAt C lo hi w W ps oc nb s->D s h t->Calls Tryz.prog g (#[.map (some nb)]++caps) W (DoQ C oc h t W)
section
variable {C:BgC} {ps:List (List UInt8)} {val:Value} {w w':World} {lo hi yu L9:Nat}
theorem ValP.later {X:Bs->Ho ⊕ Int}(h:ValP C ps val X lo hi w)(hl:Later C lo hi w w'):ValP C ps val X lo hi w':=by
 obtain⟨g,caps,h1,h2,h3⟩:=h;exact⟨g,caps,h1,h2,λW oc nb s hr=>h3 W oc nb s (hr.early hl)⟩
theorem ValP.wide {X:Bs->Ho ⊕ Int}(h:ValP C ps val X lo hi w)(a:yu<=lo)(b:hi<=L9):ValP C ps val X yu L9 w:=by
 obtain⟨g,caps,h1,h2,h3⟩:=h;exact⟨g,caps,h1,h2,λW oc nb s hr=>h3 W oc nb s (hr.thin a b)⟩
theorem TruP.later {X:Bs->Tru}(h:TruP C ps val X lo hi w)(hl:Later C lo hi w w'):TruP C ps val X lo hi w':=by
 obtain⟨g,caps,h1,h2,h3⟩:=h;exact⟨g,caps,h1,h2,λW oc nb s hr=>h3 W oc nb s (hr.early hl)⟩
theorem TruP.wide {X:Bs->Tru}(h:TruP C ps val X lo hi w)(a:yu<=lo)(b:hi<=L9):TruP C ps val X yu L9 w:=by
 obtain⟨g,caps,h1,h2,h3⟩:=h;exact⟨g,caps,h1,h2,λW oc nb s hr=>h3 W oc nb s (hr.thin a b)⟩
theorem DoP.later {D:Bs->Option Ho->Bs->Prop}(h:DoP C ps val D lo hi w)(hl:Later C lo hi w w'):DoP C ps val D lo hi w':=by
 obtain⟨g,caps,h1,h2,h3⟩:=h;exact⟨g,caps,h1,h2,λW oc nb s h t hr=>h3 W oc nb s h t (hr.early hl)⟩
theorem DoP.wide {D:Bs->Option Ho->Bs->Prop}(h:DoP C ps val D lo hi w)(a:yu<=lo)(b:hi<=L9):DoP C ps val D yu L9 w:=by
 obtain⟨g,caps,h1,h2,h3⟩:=h;exact⟨g,caps,h1,h2,λW oc nb s h t hr=>h3 W oc nb s h t (hr.thin a b)⟩
end
/-! a step; an element -/
def znP (C:BgC)(oc:List Nat)(s:Bs)(at_:Int)(W:World)(e:Ending)(w':World):Prop:=(s.left=0/\e=endE ⟨2,0,at_⟩/\w'=W)\/∃m,s.left=m+1/\e= .returned (.tuple #[])/\BgSt C oc {s with left:=m} w'/\Fr (λb=>b=C.R) W w'
theorem zbO {C:BgC}{oc:List Nat}{s:Bs}{W:World}(h:BgSt C oc s W)(ho:C.Ok)(at_:Int):Calls Tryz.prog 110 #[.pointer (some ⟨C.R,0,none⟩),.int .i64 at_] W (znP C oc s at_ W):=by
 obtain⟨As,cs,hs,hb⟩:=h.run;have c6:=hb.cell 6;have f6:=hb.frozen 6;have hl:=hb.lt;have Xl:=h.lf;simp only[runV,List.getElem?_toArray,List.getElem?_cons_succ,List.getElem?_cons_zero]at c6;obtain⟨R,hR⟩:=nmq C.R;rw[<-hR]at c6 f6 hl ⊢;cases e:s.left with
 |zero=>
  have HQ:=hdq (show znP C oc s at_ W (endE ⟨2,0,at_⟩) W from .inl ⟨e,rfl,rfl⟩);rw[e]at c6;clear h ho hs hb hR Xl;go_enter Tryz.func110,Tryz.ntmps110;go_wp2_with fail;exact⟨rfl,HQ.out⟩
 |succ m=>
  have HQ:=hdq (show znP C oc s at_ W (.returned (.tuple #[])) (W.setCell ⟨R,6,none⟩ (.int .i64 m))from .inr ⟨m,e,rfl,by rw[hR];exact h.step ho e,by rw[hR];exact Fr.own (Fr.refl _ _) _ _⟩);rw[e]at c6 Xl;have e1:(((m+1:Nat):Int)==0)=false:=by simp;omega
  have e2:wrap64 (((m+1:Nat):Int) - 1)=m:=by unfold wrap64;omega
  clear h ho hs hb hR;go_enter Tryz.func110,Tryz.ntmps110;go_wp2_with fail;go_end0;exact HQ.out
def ElQ (b z:Nat)(i at_:Int)(W:World)(e:Ending)(w':World):Prop:=w'=W/\((0<=i/\i < z/\e= .returned (.pointer (some ⟨b,i.toNat,none⟩)))\/(¬(0<=i/\i < z)/\e=endE ⟨5,5,at_⟩))
theorem zen (b z:Nat)(i at_:Int)(hz:z<=1000)(W:World):Calls Tryz.prog 177 #[.slice (some ⟨b,0,none⟩) z z,.int .i64 i,.int .i64 at_] W (ElQ b z i at_ W):=by
 by_cases h0:i < 0
 ·have HQ:=hdq (show ElQ b z i at_ W (endE ⟨5,5,at_⟩) W from⟨rfl,.inr ⟨by omega,rfl⟩⟩);have e1:decide (i < 0)=true:=by simpa using h0
  clear h0;go_enter Tryz.func177,Tryz.ntmps177;go_wp2_with fail;exact⟨rfl,HQ.out⟩
 ·have e1:decide (i < 0)=false:=by simpa using h0
  by_cases h1:i < z
  ·have e2:decide (i≥(z:Int))=false:=by simpa using h1
   have HQ:=hdq (show ElQ b z i at_ W (.returned (.pointer (some ⟨b,i.toNat,none⟩))) W from⟨rfl,.inl ⟨by omega,h1,rfl⟩⟩);have h2:(0:Int)<=i:=by omega
   go_enter Tryz.func177,Tryz.ntmps177;go_wp2_with fail;go_ret;exact HQ.out
  ·have HQ:=hdq (show ElQ b z i at_ W (endE ⟨5,5,at_⟩) W from⟨rfl,.inr ⟨by omega,rfl⟩⟩);have e2:decide (i≥(z:Int))=true:=by simp;omega
   clear h0 h1;go_enter Tryz.func177,Tryz.ntmps177;go_wp2_with fail;exact⟨rfl,HQ.out⟩
def zipM:List Nat->List Bool->Array Bool->Array Bool
 |i::is,b::bs,L=>zipM is bs (L.setIfInBounds i b)
 |_,_,L=>L
def putM:List Nat->List (Option Value)->Act->Act
 |d::ds,some v::os,a=>putM ds os (a.put (some d) v)
 |d::ds,none::os,a=>putM ds os a
 |_,_,a=>a
theorem zhN:∀(is:List Nat)(bs:List Bool)(L:Array Bool)(i:Nat)(c:Bool),i∉is->(zipM is bs L).setIfInBounds i c=zipM is bs (L.setIfInBounds i c)
 | [],_,_,_,_,_=>rfl
 |_::_, [],_,_,_,_=>rfl
 |j::is,b::bs,L,i,c,h=>by
  simp only[zipM];rw[zhN is bs _ i c (λhm=>h (List.mem_cons_of_mem _ hm)),Array.setIfInBounds_comm _ _ (λe:j=i=>h (by rw[e];exact List.mem_cons_self))]
theorem zhO:∀(is:List Nat)(bs:List Bool)(L:Array Bool)(p i:Nat),is.Nodup->is[p]?=some i->bs.length=is.length->(zipM is bs L).setIfInBounds i true=zipM is (bs.set p true) L
 | [],_,_,p,_,_,h,_=>by simp at h
 |_::_, [],_,_,_,_,_,h=>by simp at h
 |j::is,b::bs,L,0,i,hn,h,_=>by
  simp only[List.getElem?_cons_zero,Option.some.injEq]at h;subst h;simp only[zipM,List.set_cons_zero];rw[zhN is bs _ j true (List.nodup_cons.1 hn).1,Array.setIfInBounds_setIfInBounds]
 |j::is,b::bs,L,p+1,i,hn,h,hl=>by
  simp only[List.getElem?_cons_succ]at h;simp only[zipM,List.set_cons_succ];exact zhO is bs _ p i (List.nodup_cons.1 hn).2 h (by simpa using hl)
def ze5:Nat->List (List Bool)
 |0=> [[]]
 |n+1=>(ze5 n).map (false:: ·)++(ze5 n).map (true:: ·)
theorem ze6:∀(l:List Bool),l∈ze5 l.length
 | []=>by simp[ze5]
 |b::l=>by
  have:=ze6 l;cases b<;>simp[ze5,this]
def rdyB (md:Region.Mode)(ops:Array Oper)(is:List Nat)(L:Array Bool)(va:List Bool->Bool):Bool:=(ze5 is.length).all λbs=> !va bs || (let r:=Region.ready md ops (zipM is bs L);(bs.all id || !r.isEmpty)&&r.all λi=>bs.all id || (List.range is.length).any λp=>is[p]?==some i&&bs[p]?==some false&&va (bs.set p true))
section
variable {P:Program} {Q:Exit->Act->World->Prop} {md:Region.Mode} {S:World->Prop} {n:Nat->Bool} {ops:Array Oper}
abbrev flags (o:List (Option Value)):List Bool:=o.map (·.isSome)
theorem zhP {f:Nat}{L:Array Bool}{a:Act}(is ds:List Nat)(va:List Bool->Bool)(I:List (Option Value)->World->Prop)(hn:is.Nodup)(hS:∀o w,I o w->S w)(hr:rdyB md ops is L va=true)
  (NR:∀o w p i,I o w->o.length=is.length->is[p]?=some i->o[p]?=some none->va ((flags o).set p true)=true->wpOp P ops Q i (λa' w'=>∃v,a'=putM ds (o.set p (some v)) a/\I (o.set p (some v)) w') (putM ds o a) w)
  (NV:∀o w,I o w->o.length=is.length->(flags o).all id=true->wpE P md ops Q S n f (zipM is (flags o) L) (putM ds o a) w):
  ∀(m:Nat)(o:List (Option Value))(w:World),((flags o).filter (λb=> !b)).length =m->I o w->o.length=is.length->va (flags o)=true->wpE P md ops Q S n (f+m) (zipM is (flags o) L) (putM ds o a) w
 |0,o,w,hm,hI,hl,_=>NV o w hI hl (by
   rw[List.all_eq_true];intro b hb;have h0:(flags o).filter (λb=> !b)= []:=List.eq_nil_of_length_eq_zero hm;have:=List.filter_eq_nil_iff.1 h0 b hb;simpa using this)
 |m+1,o,w,hm,hI,hl,KM=>by
  have h0:=List.all_eq_true.1 hr (flags o) (by have:=ze6 (flags o);rwa [show(flags o).length =is.length by simpa using hl]at this);rw[KM]at h0;have NS:(flags o).all id=false:=by
   cases e:(flags o).all id with
   |false=>rfl
   |true=>
    have h1:(flags o).filter (λb=> !b)= []:=List.filter_eq_nil_iff.2 λb hb=>by
     have:=List.all_eq_true.1 e b hb;simpa using this
    rw[h1]at hm;simp at hm
  simp only[Bool.not_true,Bool.false_or,NS,Bool.and_eq_true,Bool.not_eq_true']at h0;refine⟨λe=>?_,λi hi=>?_⟩
  ·rw[e]at h0;simp at h0
  ·have h1:=List.all_eq_true.1 h0.2 i hi;obtain⟨p,_,hp⟩:=List.any_eq_true.1 h1;simp only[Bool.and_eq_true,beq_iff_eq]at hp;obtain⟨⟨Kb,JG⟩,Qf⟩:=hp;have Fy:o[p]?=some none:=by
    simp only[flags,List.getElem?_map]at JG;cases e:o[p]? with
    |none=>rw[e]at JG;simp at JG
    |some x=>rw[e]at JG;cases x<;>simp at JG;rfl
   have FB:∀v,flags (o.set p (some v))=(flags o).set p true:=λv=>by simp[flags,List.map_set]
   refine wpOp_mono (λa' w' h'=>?_) (NR o w p i hI hl Kb Fy Qf);obtain⟨v,rfl,gF⟩:=h';refine⟨λ_ _=>hS _ _ gF,?_⟩;rw[zhO is (flags o) L p i hn Kb (by simpa using hl),<-FB v];refine zhP is ds va I hn hS hr NR NV m (o.set p (some v)) w' ?_ gF (by simpa using hl) (by rw[FB];exact Qf);rw[FB];have hc:∀(l:List Bool)(p:Nat),l[p]?=some false->((l.set p true).filter (λb=> !b)).length +1=(l.filter (λb=> !b)).length :=by
    intro l
    induction l with
    |nil=>intro p h;simp at h
    |cons b l ih=>
     intro p h;cases p with
     |zero=>
      simp only[List.getElem?_cons_zero,Option.some.injEq]at h;subst h;simp
     |succ p=>
      simp only[List.getElem?_cons_succ]at h;have:=ih p h;cases b<;>simp at this ⊢ <;>omega
   have:=hc _ _ JG;omega
theorem zbI {f:Nat}{L:Array Bool}{a:Act}{w:World}(k:Nat)(is ds:List Nat)(va:List Bool->Bool)(I:List (Option Value)->World->Prop)(hk:is.length=k)(hn:is.Nodup)(hL:zipM is (List.replicate k false) L=L)(hp:putM ds (List.replicate k none) a=a)(hS:∀o w,I o w->S w)(hr:rdyB md ops is L va=true)(hv:va (List.replicate k false)=true)
  (NR:∀o w p i,I o w->o.length=k->is[p]?=some i->o[p]?=some none->va ((flags o).set p true)=true->wpOp P ops Q i (λa' w'=>∃v,a'=putM ds (o.set p (some v)) a/\I (o.set p (some v)) w') (putM ds o a) w)
  (NV:∀o w,I o w->o.length=k->(flags o).all id=true->wpE P md ops Q S n f (zipM is (flags o) L) (putM ds o a) w) (h:I (List.replicate k none) w):wpE P md ops Q S n (f+k) L a w:=by
 subst hk;have e:flags (List.replicate is.length none)=List.replicate is.length false:=by simp[flags]
 have:=zhP (P:=P) (Q:=Q) (md:=md) (S:=S) (n:=n) (ops:=ops) (f:=f) (L:=L) (a:=a) is ds va I hn hS hr NR NV is.length (List.replicate is.length none) w (by rw[e];simp) h (by simp) (by rw[e];exact hv)
 rwa [e,hL,hp]at this
theorem zkA {o:List (Option Value)}(h:o.length=2)(ha:(flags o).all id=true):∃u v,o= [some u,some v]:=by
 match o,h with
 | [some u,some v],_=>exact⟨u,v,rfl⟩
 | [none,_],_=>simp at ha
 | [some _,none],_=>simp at ha
theorem zfA {o:List (Option Value)}(h:o.length=4)(ha:(flags o).all id=true):∃a b c d,o= [some a,some b,some c,some d]:=by
 match o,h with
 | [some a,some b,some c,some d],_=>exact⟨a,b,c,d,rfl⟩
 | [none,_,_,_],_=>simp at ha
 | [some _,none,_,_],_=>simp at ha
 | [some _,some _,none,_],_=>simp at ha
 | [some _,some _,some _,none],_=>simp at ha
theorem zm0 {o:List (Option Value)}(h:o.length=2):∃a b,o= [a,b]:=by
 match o,h with
 | [a,b],_=>exact⟨a,b,rfl⟩
theorem zg7 {o:List (Option Value)}(h:o.length=4):∃a b c d,o= [a,b,c,d]:=by
 match o,h with
 | [a,b,c,d],_=>exact⟨a,b,c,d,rfl⟩
theorem zm1 {o:List (Option Value)}(h:o.length=6):∃a b c d e f,o= [a,b,c,d,e,f]:=by
 match o,h with
 | [a,b,c,d,e,f],_=>exact⟨a,b,c,d,e,f,rfl⟩
theorem znQ {o:List (Option Value)}(h:o.length=6)(ha:(flags o).all id=true):∃a b c d e f,o= [some a,some b,some c,some d,some e,some f]:=by
 obtain⟨a,b,c,d,e,f,rfl⟩:=zm1 h;cases a<;>cases b<;>cases c<;>cases d<;>cases e<;>cases f<;>simp at ha;exact⟨_,_,_,_,_,_,rfl⟩
end
structure ManyI (w2:World)(Pp:Nat->Value->Nat->Nat->World->Prop)(o:List (Option Value))(w:World):Prop where
 fr:Fr NoT w2 w
 iv:∃lo hi:Nat->Nat,(∀p v,o[p]?=some (some v)->Pp p v (lo p) (hi p) w/\w2.heap.size<=lo p/\hi p<=w.heap.size)/\∀p q u v,p≠q->o[p]?=some (some u)->o[q]?=some (some v)->hi p<=lo q\/hi q<=lo p
def NewB (ty:TypeId)(z:Value)(v:Value)(lo hi:Nat)(w:World):Prop:=v= .pointer (some ⟨lo,0,none⟩)/\hi=lo+1/\Bk w lo ty #[z]
def OnK (T:Nat)(P:Nat->Value->Nat->Nat->World->Prop):Prop:=∀p v lo hi w w',SameK T lo hi w w'->P p v lo hi w->P p v lo hi w'
section
variable {T:Nat} {w2 w w':World} {Pp:Nat->Value->Nat->Nat->World->Prop} {o:List (Option Value)} {p:Nat} {v:Value}
theorem NewB.same {ty:TypeId}{z:Value}{lo hi:Nat}(hs:SameK T lo hi w w')(h:NewB ty z v lo hi w):NewB ty z v lo hi w':=⟨h.1,h.2.1,(hs.2 lo (.inr ⟨lrq _,by have:=h.2.1;omega⟩)).trans h.2.2⟩
theorem SameK.of (hf:Fr NoT w w'){lo hi:Nat}(h1:hi<=w.heap.size)(h2:T<=w.heap.size):SameK T lo hi w w':=⟨hf.size,λi hi=>hf.block i (by omega) id⟩
theorem zdD {o:List (Option Value)}{p q:Nat}{x:Option Value}{u:Value}(h:(o.set p x)[q]?=some (some u)):(q=p/\x=some u)\/(q≠p/\o[q]?=some (some u)):=by
 by_cases e:p=q
 ·subst e;have hl:p < o.length:=by
   have:=(List.getElem?_eq_some_iff.1 h).1;simpa using this
  rw[List.getElem?_set_self hl]at h;exact .inl ⟨rfl,by simpa using h⟩
 ·rw[List.getElem?_set_ne e]at h;exact .inr ⟨λe'=>e e'.symm,h⟩
theorem ManyI.put (h:ManyI w2 Pp o w)(hT:T<=w2.heap.size)(hf:Fr NoT w w')(hm:OnK T Pp)(hv:Pp p v w.heap.size w'.heap.size w'):ManyI w2 Pp (o.set p (some v)) w':=by
 obtain⟨lo,hi,h1,h2⟩:=h.iv;have Xm:T<=w.heap.size:=leq9 hT h.fr.size;refine⟨h.fr.trans hf,λq=>if q=p then w.heap.size else lo q,λq=>if q=p then w'.heap.size else hi q,λq u hq=>?_,λq r u v' Xb hq hr=>?_⟩
 ·rcases zdD hq with⟨rfl,e⟩|⟨Gc,e⟩
  ·cases e;simp only[if_true];exact⟨hv,h.fr.size,lrq _⟩
  ·simp only[if_neg Gc];obtain⟨g1,g2,g3⟩:=h1 _ _ e;exact⟨hm _ _ _ _ _ _ (SameK.of hf g3 Xm) g1,g2,leq9 g3 hf.size⟩
 ·rcases zdD hq with⟨rfl,e⟩|⟨Gc,e⟩
  ·rcases zdD hr with⟨rfl,e2⟩|⟨Fl,e2⟩
   ·exact absurd rfl Xb
   ·simp only[if_true,if_neg Fl];exact .inr (h1 _ _ e2).2.2
  ·rcases zdD hr with⟨rfl,e2⟩|⟨Fl,e2⟩
   ·simp only[if_true,if_neg Gc];exact .inl (h1 _ _ e).2.2
   ·simp only[if_neg Gc,if_neg Fl];exact h2 _ _ _ _ Xb e e2
theorem ManyI.lay (h:ManyI w2 Pp o w)(hT:T<=w2.heap.size)(hm:OnK T Pp){ty:TypeId}{z:Value}(hv:∀v lo hi w,NewB ty z v lo hi w->Pp p v lo hi w):ManyI w2 Pp (o.set p (some (.pointer (some ⟨w.heap.size,0,none⟩)))) (w.alloc (.cells #[z] ty)):=
 h.put hT ((Fr.refl _ _).alloc _) hm (hv _ _ _ _ ⟨rfl,by simp,Bk.new _ _ _⟩)
theorem ManyI.zero (w2:World)(n:Nat):ManyI w2 Pp (List.replicate n none) w2:=by
 refine⟨Fr.refl _ _,λ_=>0,λ_=>0,λp v h=>?_,λp q u v _ h=>?_⟩<;>
 ·rw[List.getElem?_replicate]at h;split at h<;>simp at h
theorem ManyI.place (h:ManyI w2 Pp o w)(ho:o[p]?=some (some v)){ty:TypeId}{z:Value}(hv:∀v lo hi w,Pp p v lo hi w->NewB ty z v lo hi w):∃g,v= .pointer (some ⟨g,0,none⟩)/\w2.heap.size<=g/\Bk w g ty #[z]:=by
 obtain⟨lo,hi,h1,_⟩:=h.iv;obtain⟨g1,g2,g3⟩:=h1 _ _ ho;obtain⟨e1,e2,e3⟩:=hv _ _ _ _ g1;exact⟨_,e1,g2,e3⟩
def upP (Pp:Nat->Value->Nat->Nat->World->Prop)(p:Nat)(ty:TypeId)(u:Value):Nat->Value->Nat->Nat->World->Prop:=λq v lo hi w=>if q=p then NewB ty u v lo hi w else Pp q v lo hi w
theorem ze7 (hm:OnK T Pp)(p:Nat)(ty:TypeId)(u:Value):OnK T (upP Pp p ty u):=λq v lo hi w w' hs h=>by
 unfold upP at h ⊢;by_cases e:q=p
 ·rw[if_pos e]at h ⊢;exact h.same hs
 ·rw[if_neg e]at h ⊢;exact hm _ _ _ _ _ _ hs h
theorem ManyI.set (h:ManyI w2 Pp o w)(hT:T<=w2.heap.size)(hm:OnK T Pp){g:Nat}(ho:o[p]?=some (some (.pointer (some ⟨g,0,none⟩)))){ty:TypeId}{z:Value}(hv:∀v lo hi w,Pp p v lo hi w->NewB ty z v lo hi w)(u:Value):
  ManyI w2 (upP Pp p ty u) o (w.setCell ⟨g,0,none⟩ u):=by
 obtain⟨lo,hi,h1,h2⟩:=h.iv;obtain⟨g1,g2,g3⟩:=h1 _ _ ho;obtain⟨e1,e2,e3⟩:=hv _ _ _ _ g1;obtain rfl:g=lo p:=by simpa using e1
 refine⟨h.fr.high g2 0 u,lo,hi,λq v hq=>?_,h2⟩;obtain⟨k1,k2,k3⟩:=h1 _ _ hq;refine⟨?_,k2,by simpa using k3⟩;unfold upP;by_cases e:q=p
 ·subst e;rw[if_pos rfl];rw[ho]at hq;obtain rfl:=Option.some.inj (Option.some.inj hq);exact⟨rfl,e2,by simpa using e3.set_ 0 u⟩
 ·rw[if_neg e];refine hm _ _ _ _ _ _ ⟨by simp,λi hi=>Below.heap_setCell w _ u i λe'=>?_⟩ k1;have e':i=lo p:=e';have:=h2 _ _ _ _ e hq ho;omega
theorem ManyI.at_ (h:ManyI w2 Pp o w)(ho:o[p]?=some (some v)):∃lo hi,Pp p v lo hi w/\w2.heap.size<=lo/\hi<=w.heap.size:=by
 obtain⟨lo,hi,h1,h2⟩:=h.iv;exact⟨_,_,h1 _ _ ho⟩
theorem ManyI.two (h:ManyI w2 Pp o w){q g g':Nat}(Pw:p≠q)(ho:o[p]?=some (some (.pointer (some ⟨g,0,none⟩))))(gG:o[q]?=some (some (.pointer (some ⟨g',0,none⟩)))){ty ty':TypeId}{z z':Value}(hv:∀v lo hi w,Pp p v lo hi w->NewB ty z v lo hi w)(Ps:∀v lo hi w,Pp q v lo hi w->NewB ty' z' v lo hi w):g≠g':=by
 obtain⟨lo,hi,h1,h2⟩:=h.iv;obtain⟨e1,e2,_⟩:=hv _ _ _ _ (h1 _ _ ho).1;obtain⟨d1,d2,_⟩:=Ps _ _ _ _ (h1 _ _ gG).1;have a1:g=lo p:=by simpa using e1
 have a2:g'=lo q:=by simpa using d1
 have:=h2 _ _ _ _ Pw ho gG;omega
end
def PpG (C:BgC)(f:Nat->Option (Value->Nat->Nat->World->Prop))(ty:Nat->TypeId):Nat->Value->Nat->Nat->World->Prop:=λp v lo hi w=>match f p with
 |some g=>g v lo hi w/\hi<=w.heap.size/\C.T<=w.heap.size
 |none=>NewB (ty p) .nilFunc v lo hi w
theorem PpG.on {C:BgC}{f:Nat->Option (Value->Nat->Nat->World->Prop)}{ty:Nat->TypeId}(hf:∀p g,f p=some g->∀v lo hi w w',Later C lo hi w w'->g v lo hi w->g v lo hi w'):OnK C.T (PpG C f ty):=λp v lo hi w w' hs h=>by
 unfold PpG at h ⊢;cases e:f p with
 |none=>
  simp only[e]at h ⊢;exact h.same hs
 |some g=>
  simp only[e]at h ⊢;exact⟨hf p g e _ _ _ _ _ (Later.same hs h.2.1 h.2.2) h.1,leq9 h.2.1 hs.1,leq9 h.2.2 hs.1⟩
