/- big. -/
import Derived.Test.YtfomomaomggpbaaGreatDoorJgSrRun
import Derived.Test.YtfomomaomggpbaaGreatDoorJgFg2
set_option linter.all false
set_option maxHeartbeats 1600000
set_option maxRecDepth 100000
namespace Go.Proofs.YtfomomaomggpbaaGreatDoor
open Go.RowKit Go.Shelf
structure BgC where
 n:Bn
 B:Nat
 L:Nat
 T:Nat
 R:Nat
 V:Nat
 P:Nat
 MA:Nat
 MP:Nat
 A:Option Addr
 c:Nat
 bs:List Nat
 zs:List Nat
def BgC.Mut (C:BgC)(b:Nat):Prop:=b=C.R\/b=C.V\/b∈C.bs\/b=C.MP
def BgC.MutO (C:BgC)(oc:List Nat)(b:Nat):Prop:=C.Mut b\/b∈oc
structure BgC.Ok (C:BgC):Prop where
 bl:C.B<=C.L
 br:C.B<=C.R
 bm:C.B<=C.MP
 rT:C.R < C.T
 vT:C.V < C.T
 bT:∀b∈C.bs,C.T > b
 mT:C.MP < C.T
 pT:C.P < C.T
 aT:C.MA < C.T
 rv:C.R≠C.V
 rb:C.R∉C.bs
 row:∀(n:Nat) b,(Value.slice C.A n C.c).ownBlock =some b->b < C.T/\b≠C.R
 pn:¬C.Mut C.P
 an:¬C.Mut C.MA
def runV (C:BgC)(As:Option Addr)(cs:Nat)(s:Bs):Array Value:= #[.slice As s.script.length cs,.int .u8 0,.int .u8 0,.int .i64 0,.int .i64 0,.int .i64 0,.int .i64 s.left,.slice (some ⟨C.V,0,none⟩) s.vs.length s.vs.length,.slice C.A s.ls.length C.c]
structure BgSt (C:BgC)(oc:List Nat)(s:Bs)(w:World):Prop where
 run:∃As cs,IsSl w C.B s.script As cs/\Bk w C.R 68 (runV C As cs s)
 sto:Sto w C.L s.vs s.ls C.V C.A C.c C.bs
 len:s.own.length=oc.length
 own:∀(i b:Nat)(x:Int),oc[i]?=some b->s.own[i]?=some x->Bk w b 3 #[.int .i64 x]
 nd:oc.Nodup
 top:∀b∈oc,C.T<=b
 oi:∀x∈s.own,is64 x
 lf:s.left<=65536
 nv:s.vs.length=C.n.vars.length
 na:s.ls.length=C.n.arrs.length
 az:s.ls.map List.length=C.zs
section
variable {C:BgC} {oc:List Nat} {s t:Bs} {w w':World}
theorem BgSt.size (h:BgSt C oc s w)(ho:C.Ok):C.B<=w.heap.size:=by
 obtain⟨_,_,_,hb⟩:=h.run;have:=hb.lt;have:=ho.br;omega
theorem BgSt.ol (h:BgSt C oc s w):∀b∈oc,b < w.heap.size:=by
 intro b hb;obtain⟨i,hi⟩:=List.mem_iff_getElem?.1 hb;have hl:i < s.own.length:=by rw[h.len];exact(List.getElem?_eq_some_iff.1 hi).1
 exact(h.own i b _ hi (List.getElem?_eq_getElem hl)).lt
theorem BgSt.fr (h:BgSt C oc s w)(ho:C.Ok){T:Nat->Prop}(hf:Fr T w w')(h1:¬T C.R)(h2:¬T C.V)(h3:∀b∈C.bs,¬T b)(h4:∀b,(Value.slice C.A s.ls.length C.c).ownBlock =some b->¬T b)(h5:∀b∈oc,¬T b)(h6:∀b,b < C.B->¬T b):BgSt C oc s w':=by
 obtain⟨As,cs,hs,hb⟩:=h.run;refine⟨⟨As,cs,hs.keep λp hp=>?_,hb.fr hf h1⟩,h.sto.fr hf h2 h3 h4,h.len,λi b x hi hx=>(h.own i b x hi hx).fr hf (h5 b (List.mem_of_getElem? hi)),h.nd,h.top,h.oi,h.lf,h.nv,h.na,h.az⟩;exact hf.cell (aM hp (h.size ho)) (h6 _ hp)
theorem BgSt.fr0 (h:BgSt C oc s w)(ho:C.Ok)(hf:Fr NoT w w'):BgSt C oc s w':=h.fr ho hf id id (λ_ _=>id) (λ_ _=>id) (λ_ _=>id) λ_ _=>id
theorem zqa (ho:C.Ok){b:Nat}(hb:b < C.B):b≠C.R:=λe=>by have:=ho.br;omega
theorem BgSt.turn (h:BgSt C oc s w)(ho:C.Ok)(hf:Fr (λb=>b=C.R) w w')(hv:t.vs=s.vs)(hl:t.ls=s.ls)(hw:t.own=s.own)(Yk:t.left<=65536){As:Option Addr}{cs:Nat}(hs:IsSl w C.B t.script As cs)(hb:Bk w' C.R 68 (runV C As cs t)):BgSt C oc t w':=by
 have Fk:Same C.B w w':=λp hp=>hf.cell (aM hp (h.size ho)) (zqa ho hp);refine⟨⟨As,cs,hs.keep Fk,hb⟩,?_,by rw[hw];exact h.len,λi b x hi hx=>(h.own i b x hi (by rw[<-hw];exact hx)).fr hf λe=>?_,h.nd,h.top,by rw[hw];exact h.oi,Yk,by rw[hv];exact h.nv,by rw[hl];exact h.na,by rw[hl];exact h.az⟩
 ·rw[hv,hl];exact h.sto.fr hf (λe=>ho.rv e.symm) (λb hb e=>ho.rb (by have e:b=C.R:=e;exact e▸hb)) λb hb e=>(ho.row _ b hb).2 e
 ·have e:b=C.R:=e;have h1:=h.top b (List.mem_of_getElem? hi);have h2:=ho.rT;omega
theorem BgSt.step (h:BgSt C oc s w)(ho:C.Ok){m:Nat}(hm:s.left=m+1):BgSt C oc {s with left:=m} (w.setCell ⟨C.R,6,none⟩ (.int .i64 m)):=by
 obtain⟨As,cs,hs,hb⟩:=h.run;refine h.turn ho (aJ aH) rfl rfl rfl (by have:=h.lf;show m<=_;omega) hs ?_;have:=hb.set_ 6 (.int .i64 m);simpa[runV]using this
theorem BgSt.read (h:BgSt C oc s w)(ho:C.Ok){q:List Int}{As xx:Option Addr}{cs xh:Nat}(hb:Bk w C.R 68 (runV C As cs s))(hs:IsSl w C.B q xx xh):
  BgSt C oc {s with script:=q} (w.setCell ⟨C.R,0,none⟩ (.slice xx q.length xh)):=by
 refine h.turn ho (aJ aH) rfl rfl rfl h.lf hs ?_;have:=hb.set_ 0 (.slice xx q.length xh);simpa[runV]using this
theorem BgSt.setV (h:BgSt C oc s w)(ho:C.Ok)(i:Nat){x:Int}(hx:is64 x):BgSt C oc {s with vs:=s.vs.set i x} (w.setCell ⟨C.V,i,none⟩ (.int .i64 x)):=by
 obtain⟨As,cs,hs,hb⟩:=h.run;obtain⟨GV,hf⟩:=h.sto.setV i hx;refine⟨⟨As,cs,hs.keep λp hp=>hf.cell (aM hp (h.size ho)) λe=>?_,?_⟩,GV,h.len,λi b y hi hy=>(h.own i b y hi hy).fr hf λe=>?_,h.nd,h.top,h.oi,h.lf,by simpa using h.nv,h.na,h.az⟩
 ·have e:p.block=C.V:=e;have h1:=h.sto.vl;have h2:=ho.bl;omega
 ·have:=hb.fr hf ho.rv;simpa[runV]using this
 ·have e:b=C.V:=e;have h1:=h.top b (List.mem_of_getElem? hi);have h2:=ho.vT;omega
theorem BgSt.bgSetO (h:BgSt C oc s w)(ho:C.Ok){i b:Nat}(hb:oc[i]?=some b){x:Int}(hx:is64 x):BgSt C oc {s with own:=s.own.set i x} (w.setCell ⟨b,0,none⟩ (.int .i64 x)):=by
 have hf:Fr (λy=>y=b) w (w.setCell ⟨b,0,none⟩ (.int .i64 x)):=aJ aH;have hT:=h.top b (List.mem_of_getElem? hb);have Nm:i < s.own.length:=by rw[h.len];exact(List.getElem?_eq_some_iff.1 hb).1
 obtain⟨As,cs,hs,hk⟩:=h.run;refine⟨⟨As,cs,hs.keep λp hp=>hf.cell (aM hp (h.size ho)) λe=>?_,hk.fr hf λe=>?_⟩,h.sto.fr hf (λe=>?_) (λb' GO e=>?_) (λb' GO e=>?_),by simpa using h.len,λj b' y hj hy=>?_,h.nd,h.top,zfW h.oi i hx,h.lf,h.nv,h.na,h.az⟩
 ·have e:p.block=b:=e;have h1:=ho.br;have h2:=ho.rT;omega
 ·have e:C.R=b:=e;have h2:=ho.rT;omega
 ·have e:C.V=b:=e;have h2:=ho.vT;omega
 ·have e:b'=b:=e;have h2:=ho.bT b' GO;omega
 ·have e:b'=b:=e;have h2:=(ho.row _ b' GO).1;omega
 ·by_cases e:i=j
  ·subst e;rw[hb]at hj;obtain rfl:=Option.some.inj hj;rw[List.getElem?_set_self Nm]at hy;obtain rfl:=Option.some.inj hy;have:=(h.own i b _ hb (List.getElem?_eq_getElem Nm)).set_ 0 (.int .i64 x);simpa using this
  ·rw[List.getElem?_set_ne e]at hy;refine(h.own j b' y hj hy).fr hf λe'=>e ?_;have e':b'=b:=e';subst e';obtain⟨p1,p2⟩:=List.getElem?_eq_some_iff.1 hb;obtain⟨p3,p4⟩:=List.getElem?_eq_some_iff.1 hj;exact(List.getElem_inj h.nd).1 (p2.trans p4.symm)
theorem zhK {ls:List (List Int)}{i:Nat}{l:List Int}(hl:ls[i]?=some l)(j:Nat)(x:Int):(ls.set i (l.set j x)).map List.length=ls.map List.length:=by
 apply List.ext_getElem?;intro k;rw[List.getElem?_map,List.getElem?_map,List.getElem?_set];by_cases e:i=k
 ·subst e;have hi:=(List.getElem?_eq_some_iff.1 hl).1;rw[if_pos rfl,if_pos hi,hl];simp
 ·rw[if_neg e]
theorem BgSt.setA (h:BgSt C oc s w)(ho:C.Ok){i b:Nat}{l:List Int}(hb:C.bs[i]?=some b)(hl:s.ls[i]?=some l)(j:Nat){x:Int}(hx:is64 x):BgSt C oc {s with ls:=s.ls.set i (l.set j x)} (w.setCell ⟨b,j,none⟩ (.int .i64 x)):=by
 obtain⟨As,cs,hs,hk⟩:=h.run;obtain⟨GV,hf⟩:=h.sto.setA hb hl j hx;have WC:=List.mem_of_getElem? hb;have hL:=(h.sto.each i b l hb hl).1;refine⟨⟨As,cs,hs.keep λp hp=>hf.cell (aM hp (h.size ho)) λe=>?_,?_⟩,GV,h.len,λk b' y hi hy=>(h.own k b' y hi hy).fr hf λe=>?_,h.nd,h.top,h.oi,h.lf,h.nv,by simpa using h.na,by rw[<-h.az];exact zhK hl j x⟩
 ·have e:p.block=b:=e;have h2:=ho.bl;omega
 ·have:=hk.fr hf λe=>ho.rb (by have e:C.R=b:=e;rw[e];exact WC);simpa[runV]using this
 ·have e:b'=b:=e;have h1:=h.top b' (List.mem_of_getElem? hi);have h2:=ho.bT b WC;omega
theorem BgSt.owns (h:BgSt C oc s w){ud:List Nat}{xs:List Int}(h1:xs.length=ud.length)(h2:∀(i b:Nat)(x:Int),ud[i]?=some b->xs[i]?=some x->Bk w b 3 #[.int .i64 x])(h3:ud.Nodup)(h4:∀b∈ud,C.T<=b)(h5:∀x∈xs,is64 x):BgSt C ud {s with own:=xs} w:=
 ⟨h.run,h.sto,h1,h2,h3,h4,h5,h.lf,h.nv,h.na,h.az⟩
end
structure PgAt (C:BgC)(w:World):Prop where
 p:Bk w C.P 73 #[.pointer (some ⟨C.R,0,none⟩),.map (some C.MA),.map (some C.MP)]
 ma:∃N f,MpV w C.MA N f/\∀nm i,posI C.n.arrs nm=some i->∃b,C.bs[i]?=some b/\∀(s:Bs)(oc:List Nat)(W:World)(l:List Int),BgSt C oc s W->s.ls[i]?=some l->f nm=some (.slice (some ⟨b,0,none⟩) l.length l.length)
def SameK (T lo hi:Nat)(w w':World):Prop:=w.heap.size<=w'.heap.size/\∀i,(i < T\/lo<=i/\i < hi)->w'.heap[i]?=w.heap[i]?
structure Later (C:BgC)(lo hi:Nat)(w W:World):Prop where
 size:hi<=W.heap.size/\C.T<=W.heap.size
 block:∀i,(i < C.T\/lo<=i/\i < hi)->¬C.Mut i->W.heap[i]?=w.heap[i]?
section
variable {C:BgC} {oc:List Nat} {s t:Bs} {w W W':World} {lo hi xy L5:Nat}
theorem Later.refl (h1:hi<=w.heap.size)(h2:C.T<=w.heap.size):Later C lo hi w w:=⟨⟨h1,h2⟩,λ_ _ _=>rfl⟩
theorem Later.trans (h:Later C lo hi w W)(k:Later C lo hi W W'):Later C lo hi w W':=⟨k.size,λi hi hn=>(k.block i hi hn).trans (h.block i hi hn)⟩
theorem Later.run (h:Later C lo hi w W)(hf:Fr (C.MutO oc) W W')(ho:∀b∈oc,hi<=b/\C.T<=b):Later C lo hi w W':=
 ⟨⟨aK h.size.1 hf.size,aK h.size.2 hf.size⟩,λi hi hn=>(hf.block i (by have:=h.size;omega) λe=>e.elim hn λhm=>by have:=ho i hm;omega).trans (h.block i hi hn)⟩
theorem Later.of (hf:Fr C.Mut w W)(h1:hi<=w.heap.size)(h2:C.T<=w.heap.size):Later C lo hi w W:=⟨⟨aK h1 hf.size,aK h2 hf.size⟩,λi hi hn=>hf.block i (by omega) hn⟩
theorem Later.of0 (hf:Fr NoT w W)(h1:hi<=w.heap.size)(h2:C.T<=w.heap.size):Later C lo hi w W:=Later.of hf.any h1 h2
theorem Later.thin (h:Later C lo hi w W)(h1:lo<=xy)(h2:L5<=hi):Later C xy L5 w W:=⟨⟨aK h2 h.size.1,h.size.2⟩,λi hi hn=>h.block i (by omega) hn⟩
theorem Later.bk (h:Later C lo hi w W){g:Nat}{ty:TypeId}{cs:Array Value}(hb:Bk w g ty cs)(hg:lo<=g/\g < hi)(hn:¬C.Mut g):Bk W g ty cs:=(h.block g (.inr hg) hn).trans hb
theorem Later.bkT (h:Later C lo hi w W){g:Nat}{ty:TypeId}{cs:Array Value}(hb:Bk w g ty cs)(hg:g < C.T)(hn:¬C.Mut g):Bk W g ty cs:=(h.block g (.inl hg) hn).trans hb
theorem Later.far (h1:hi<=w.heap.size)(h2:C.T<=w.heap.size){g:Nat}(hg:C.T<=g/\(g < lo\/hi<=g))(i:Nat)(u:Value):Later C lo hi w (w.setCell ⟨g,i,none⟩ u):=
 ⟨⟨by simpa using h1,by simpa using h2⟩,λj hj _=>Below.heap_setCell w _ u j λe=>by have e:j=g:=e;omega⟩
theorem Later.same (hs:SameK C.T lo hi w W)(h1:hi<=w.heap.size)(h2:C.T<=w.heap.size):Later C lo hi w W:=⟨⟨aK h1 hs.1,aK h2 hs.1⟩,λi hi _=>hs.2 i hi⟩
theorem MpV.later (h:Later C lo hi w W){b n:Nat}{f:List UInt8->Option Value}(hm:MpV w b n f)(hb:b < C.T)(hn:¬C.Mut b):MpV W b n f:=by
 obtain⟨D,Ha,hD⟩:=hm;obtain⟨es,clock,hk,F,hs,e⟩:=Ha;exact⟨D,⟨es,clock,(h.block b (.inl hb) hn).trans hk,F,hs,e⟩,hD⟩
theorem PgAt.later (h:PgAt C w)(ho:C.Ok)(hl:Later C lo hi w W):PgAt C W:=by
 obtain⟨N,f,h1,h2⟩:=h.ma;exact⟨hl.bkT h.p ho.pT ho.pn,N,f,h1.later hl ho.aT ho.an,h2⟩
theorem zg4 (ho:C.Ok){b:Nat}(hb:C.T<=b):¬C.Mut b:=by
 have h1:=ho.rT;have h2:=ho.vT;have h3:=ho.mT;rintro(e|e|e|e)
 ·omega
 ·omega
 ·have:=ho.bT b e;omega
 ·omega
end
structure ScAt (C:BgC)(ps:List (List UInt8))(oc:List Nat)(nb left:Nat)(w:World):Prop where
 map:∃N f,MpV w nb N f/\N+left<=1000000/\(∀nm i,posI C.n.vars nm=some i->f nm=some (.pointer (some ⟨C.V,i,none⟩)))/\∀nm k,posI ps nm=some k->∃b,oc[k]?=some b/\f nm=some (.pointer (some ⟨b,0,none⟩))
 ap:∀nm k,posI ps nm=some k->posI C.n.vars nm=none
 out:¬C.MutO oc nb
structure RunAt (C:BgC)(lo hi:Nat)(w W:World)(ps:List (List UInt8))(oc:List Nat)(nb:Nat)(s:Bs):Prop where
 lat:Later C lo hi w W
 new:∀b∈oc,hi<=b
 st:BgSt C oc s W
 sc:ScAt C ps oc nb s.left W
section
variable {C:BgC} {ps:List (List UInt8)} {oc:List Nat} {nb:Nat} {s t:Bs} {w w1 W W':World} {lo hi xy L5:Nat}
theorem ScAt.next {m m':Nat}(h:ScAt C ps oc nb m W)(hf:Fr (C.MutO oc) W W')(hm:m'<=m):ScAt C ps oc nb m' W':=by
 obtain⟨N,f,h1,h2,h3⟩:=h.map;exact⟨⟨N,f,h1.fr hf h.out,by omega,h3⟩,h.ap,h.out⟩
theorem RunAt.next (h:RunAt C lo hi w W ps oc nb s)(hf:Fr (C.MutO oc) W W')(ht:BgSt C oc t W')(hl:t.left<=s.left):RunAt C lo hi w W' ps oc nb t:=⟨h.lat.run hf λb hb=>⟨h.new b hb,h.st.top b hb⟩,h.new,ht,h.sc.next hf hl⟩
theorem RunAt.fr0 (h:RunAt C lo hi w W ps oc nb s)(ho:C.Ok)(hf:Fr NoT W W'):RunAt C lo hi w W' ps oc nb s:=h.next hf.any (h.st.fr0 ho hf) (aL _)
theorem RunAt.early (h:RunAt C lo hi w W ps oc nb s)(hl:Later C lo hi w1 w):RunAt C lo hi w1 W ps oc nb s:=⟨hl.trans h.lat,h.new,h.st,h.sc⟩
theorem RunAt.thin (h:RunAt C lo hi w W ps oc nb s)(h1:lo<=xy)(h2:L5<=hi):RunAt C xy L5 w W ps oc nb s:=⟨h.lat.thin h1 h2,λb hb=>aK h2 (h.new b hb),h.st,h.sc⟩
theorem RunAt.bk (h:RunAt C lo hi w W ps oc nb s)(ho:C.Ok)(hT:C.T<=lo){g:Nat}{ty:TypeId}{cs:Array Value}(hb:Bk w g ty cs)(hg:lo<=g/\g < hi):Bk W g ty cs:=h.lat.bk hb hg (zg4 ho (aK hT hg.1))
def Bx (lo hi:Nat)(w:World)(g:Nat)(ty:TypeId)(cs:Array Value):Prop:=Bk w g ty cs/\lo<=g/\g < hi
theorem RunAt.bx (h:RunAt C lo hi w W ps oc nb s)(ho:C.Ok)(hT:C.T<=lo){g:Nat}{ty:TypeId}{cs:Array Value}(hb:Bx lo hi w g ty cs):Bk W g ty cs:=h.bk ho hT hb.1 hb.2
end
def endE (h:Ho):Ending:= .panicked [{v:= .iface 85 (.agg #[.int .u8 h.kind,.int .u8 h.wrong,.int .i64 h.at_]),recovered:=false}]
def ziv:Ho ⊕ Int->Ending->Prop
 | .inl h,e=>e=endE h
 | .inr x,e=>e= .returned (.int .i64 x)/\is64 x
def zce:Ho ⊕ Bool->Ending
 | .inl h=>endE h
 | .inr b=> .returned (.bool b)
def zeI:Option Ho->Ending
 |some h=>endE h
 |none=> .returned (.tuple #[])
def ValQ (r:Ho ⊕ Int)(W:World)(e:Ending)(w':World):Prop:=ziv r e/\Fr NoT W w'
def TruQ (C:BgC)(oc:List Nat)(s:Bs)(r:(Ho ⊕ Bool)×Nat)(W:World)(e:Ending)(w':World):Prop:=e=zce r.1/\BgSt C oc {s with left:=r.2} w'/\Fr (λb=>b=C.R) W w'
def DoQ (C:BgC)(oc:List Nat)(h:Option Ho)(t:Bs)(W:World)(e:Ending)(w':World):Prop:=e=zeI h/\BgSt C oc t w'/\Fr (C.MutO oc) W w'
def ValP (C:BgC)(ps:List (List UInt8))(val:Value)(X:Bs->Ho ⊕ Int)(lo hi:Nat)(w:World):Prop:=
 ∃g caps,val= .func (.func g) #[] caps/\Enters Tryz.prog g/\∀W oc nb s,RunAt C lo hi w W ps oc nb s->Calls Tryz.prog g (#[.map (some nb)]++caps) W (ValQ (X s) W)
def TruP (C:BgC)(ps:List (List UInt8))(val:Value)(X:Bs->Tru)(lo hi:Nat)(w:World):Prop:=
 ∃g caps,val= .func (.func g) #[] caps/\Enters Tryz.prog g/\∀W oc nb s,RunAt C lo hi w W ps oc nb s->Calls Tryz.prog g (#[.map (some nb)]++caps) W (TruQ C oc s (X s s.left) W)
def DoP (C:BgC)(ps:List (List UInt8))(val:Value)(D:Bs->Option Ho->Bs->Prop)(lo hi:Nat)(w:World):Prop:=
 ∃g caps,val= .func (.func g) #[] caps/\Enters Tryz.prog g/\∀W oc nb s h t,RunAt C lo hi w W ps oc nb s->D s h t->Calls Tryz.prog g (#[.map (some nb)]++caps) W (DoQ C oc h t W)
section
variable {C:BgC} {ps:List (List UInt8)} {val:Value} {w w':World} {lo hi xy L5:Nat}
theorem ValP.later {X:Bs->Ho ⊕ Int}(h:ValP C ps val X lo hi w)(hl:Later C lo hi w w'):ValP C ps val X lo hi w':=by
 obtain⟨g,caps,h1,h2,h3⟩:=h;exact⟨g,caps,h1,h2,λW oc nb s hr=>h3 W oc nb s (hr.early hl)⟩
theorem ValP.wide {X:Bs->Ho ⊕ Int}(h:ValP C ps val X lo hi w)(a:xy<=lo)(b:hi<=L5):ValP C ps val X xy L5 w:=by
 obtain⟨g,caps,h1,h2,h3⟩:=h;exact⟨g,caps,h1,h2,λW oc nb s hr=>h3 W oc nb s (hr.thin a b)⟩
theorem TruP.later {X:Bs->Tru}(h:TruP C ps val X lo hi w)(hl:Later C lo hi w w'):TruP C ps val X lo hi w':=by
 obtain⟨g,caps,h1,h2,h3⟩:=h;exact⟨g,caps,h1,h2,λW oc nb s hr=>h3 W oc nb s (hr.early hl)⟩
theorem TruP.wide {X:Bs->Tru}(h:TruP C ps val X lo hi w)(a:xy<=lo)(b:hi<=L5):TruP C ps val X xy L5 w:=by
 obtain⟨g,caps,h1,h2,h3⟩:=h;exact⟨g,caps,h1,h2,λW oc nb s hr=>h3 W oc nb s (hr.thin a b)⟩
theorem DoP.later {D:Bs->Option Ho->Bs->Prop}(h:DoP C ps val D lo hi w)(hl:Later C lo hi w w'):DoP C ps val D lo hi w':=by
 obtain⟨g,caps,h1,h2,h3⟩:=h;exact⟨g,caps,h1,h2,λW oc nb s h t hr=>h3 W oc nb s h t (hr.early hl)⟩
theorem DoP.wide {D:Bs->Option Ho->Bs->Prop}(h:DoP C ps val D lo hi w)(a:xy<=lo)(b:hi<=L5):DoP C ps val D xy L5 w:=by
 obtain⟨g,caps,h1,h2,h3⟩:=h;exact⟨g,caps,h1,h2,λW oc nb s h t hr=>h3 W oc nb s h t (hr.thin a b)⟩
end
/-! a step; an element -/
def zpe (C:BgC)(oc:List Nat)(s:Bs)(at_:Int)(W:World)(e:Ending)(w':World):Prop:=(s.left=0/\e=endE ⟨2,0,at_⟩/\w'=W)\/∃m,s.left=m+1/\e= .returned (.tuple #[])/\BgSt C oc {s with left:=m} w'/\Fr (λb=>b=C.R) W w'
theorem zbU {C:BgC}{oc:List Nat}{s:Bs}{W:World}(h:BgSt C oc s W)(ho:C.Ok)(at_:Int):Calls Tryz.prog 110 #[.pointer (some ⟨C.R,0,none⟩),.int .i64 at_] W (zpe C oc s at_ W):=by
 obtain⟨As,cs,hs,hb⟩:=h.run;have c6:=hb.cell 6;have f6:=hb.frozen 6;have hl:=hb.lt;have Yk:=h.lf;simp only[runV,List.getElem?_toArray,List.getElem?_cons_succ,List.getElem?_cons_zero]at c6;obtain⟨R,hR⟩:=aF C.R;rw[<-hR]at c6 f6 hl ⊢;cases e:s.left with
 |zero=>
  have HQ:=aA (show zpe C oc s at_ W (endE ⟨2,0,at_⟩) W from .inl ⟨e,rfl,rfl⟩);rw[e]at c6;clear h ho hs hb hR Yk;go_enter Tryz.func110,Tryz.ntmps110;go_wp2_with fail;exact⟨rfl,HQ.out⟩
 |succ m=>
  have HQ:=aA (show zpe C oc s at_ W (.returned (.tuple #[])) (W.setCell ⟨R,6,none⟩ (.int .i64 m))from .inr ⟨m,e,rfl,by rw[hR];exact h.step ho e,by rw[hR];exact aJ aH⟩);rw[e]at c6 Yk;have e1:(((m+1:Nat):Int)==0)=false:=by simp;omega
  have e2:wrap64 (((m+1:Nat):Int) - 1)=m:=by unfold wrap64;omega
  clear h ho hs hb hR;go_enter Tryz.func110,Tryz.ntmps110;go_wp2_with fail;go_end0;exact HQ.out
def ElQ (b z:Nat)(i at_:Int)(W:World)(e:Ending)(w':World):Prop:=w'=W/\((0<=i/\i < z/\e= .returned (.pointer (some ⟨b,i.toNat,none⟩)))\/(¬(0<=i/\i < z)/\e=endE ⟨5,5,at_⟩))
theorem zeJ (b z:Nat)(i at_:Int)(hz:z<=1000)(W:World):Calls Tryz.prog 177 #[.slice (some ⟨b,0,none⟩) z z,.int .i64 i,.int .i64 at_] W (ElQ b z i at_ W):=by
 by_cases h0:i < 0
 ·have HQ:=aA (show ElQ b z i at_ W (endE ⟨5,5,at_⟩) W from⟨rfl,.inr ⟨by omega,rfl⟩⟩);have e1:decide (i < 0)=true:=by simpa using h0
  clear h0;go_enter Tryz.func177,Tryz.ntmps177;go_wp2_with fail;exact⟨rfl,HQ.out⟩
 ·have e1:decide (i < 0)=false:=by simpa using h0
  by_cases h1:i < z
  ·have e2:decide (i≥(z:Int))=false:=by simpa using h1
   have HQ:=aA (show ElQ b z i at_ W (.returned (.pointer (some ⟨b,i.toNat,none⟩))) W from⟨rfl,.inl ⟨by omega,h1,rfl⟩⟩);have h2:(0:Int)<=i:=by omega
   go_enter Tryz.func177,Tryz.ntmps177;go_wp2_with fail;go_ret;exact HQ.out
  ·have HQ:=aA (show ElQ b z i at_ W (endE ⟨5,5,at_⟩) W from⟨rfl,.inr ⟨by omega,rfl⟩⟩);have e2:decide (i≥(z:Int))=true:=by simp;omega
   clear h0 h1;go_enter Tryz.func177,Tryz.ntmps177;go_wp2_with fail;exact⟨rfl,HQ.out⟩
def EdS (b:Nat)(k wr at_:Int)(W:World):Prop:=W.cell? ⟨b,0,none⟩=some (.int .u8 k)/\W.cell? ⟨b,1,none⟩=some (.int .u8 wr)/\W.cell? ⟨b,2,none⟩=some (.int .i64 at_)
structure bgRcS (r R t6:Nat)(e:Array Value)(sc k0 w0 a0 nd ed lf vs asv:Value)(w:World):Prop where
 br:Bk w r 66 #[.pointer (some ⟨R,0,none⟩)]
 bR:Bk w R 68 #[sc,k0,w0,a0,nd,ed,lf,vs,asv]
 b6:Bk w t6 34 e
 ne:r≠t6/\R≠t6
def zdG (k wr at_:Int)(nd ed lf vs asv:Value):Array Value:= #[.int .u8 k,.int .u8 wr,.int .i64 at_,nd,ed,lf,vs,asv]
def CatP (t6:Nat)(k wr at_:Int)(nd ed lf vs asv:Value)(w w':World):Prop:=Bk w' t6 34 (zdG k wr at_ nd ed lf vs asv)/\Fr (λb=>b=t6) w w'
theorem zlD (r R t6:Nat)(e0 e1 e2 e3 e4 e5 e6 e7 sc k0 w0 a0 nd ed lf vs asv:Value)(w:World)(h:bgRcS r R t6 #[e0,e1,e2,e3,e4,e5,e6,e7] sc k0 w0 a0 nd ed lf vs asv w)(PB:nd= .int .i64 0/\ed= .int .i64 0/\(∃n,lf= .int .i64 n)/\(∃A l c,vs= .slice A l c)/\(∃A l c,asv= .slice A l c)/\(∃x,k0= .int .u8 x)/\(∃x,w0= .int .u8 x)/\∃x,a0= .int .i64 x):
  CallsD Tryz.prog 24 #[.pointer (some ⟨r,0,none⟩),.pointer (some ⟨t6,0,none⟩)] .returning w λe u' w'=>e= .returned (.tuple #[])/\u'= .returning /\CatP t6 1 0 0 nd ed lf vs asv w w':=by
 obtain⟨rfl,rfl,⟨n,rfl⟩,⟨A1,l1,c1,rfl⟩,⟨A2,l2,c2,rfl⟩,⟨k0,rfl⟩,⟨w0,rfl⟩,⟨a0,rfl⟩⟩:=PB;refine callsD_of_wpS Tryz.func24 rfl λc₀ cs hu=>?_;simp only[Tryz.ntmps24,List.size_toArray,List.length_cons,List.length_nil,Nat.reduceAdd,Nat.reduceSub,Array.replicate_succ,Array.replicate_zero,List.push_toArray,List.append_toArray,List.nil_append,List.cons_append];apply wpS_seq;apply wpS_region;generalize hK:Exit.thenS _ _=K;have HK:=aA hK;clear hK;simp[wpOpsS,go_sem,recoverD,hu];have JE:=HK.out;clear HK;subst JE;simp only[Exit.thenS];refine wpS_of_wp ?_;generalize hQ:(λe a' w'=>bodyPostS _ _ _ _ _ e a' _ w')=Q;have HQ:=aA hQ;clear hQ;have HU:=aA hu;clear hu;have NG:∀W:World,(Instr.typeAssert .nilIface 20 85 true).run Tryz.prog W= .ok (.tuple #[.agg #[.int .u8 0,.int .u8 0,.int .i64 0],.bool false]) W:=λ_=>by kernel_rfl
 obtain⟨br,bR,b6,DO,DP⟩:=h;have r0:=br.cell 0;have rl:=br.lt;have R1:=bR.cell 1;have R2:=bR.cell 2;have R3:=bR.cell 3;have R4:=bR.cell 4;have R5:=bR.cell 5;have R6:=bR.cell 6;have R7:=bR.cell 7;have R8:=bR.cell 8;have Rl:=bR.lt;have g0:=b6.cell 0;have g1:=b6.cell 1;have g2:=b6.cell 2;have g3:=b6.cell 3;have g4:=b6.cell 4;have g5:=b6.cell 5;have g6:=b6.cell 6;have g7:=b6.cell 7;have z0:=b6.frozen 0;have z1:=b6.frozen 1;have z2:=b6.frozen 2;have z3:=b6.frozen 3;have z4:=b6.frozen 4;have z5:=b6.frozen 5;have z6:=b6.frozen 6;have z7:=b6.frozen 7;have zl:=b6.lt;simp only[aD]at r0 R1 R2 R3 R4 R5 R6 R7 R8 g0 g1 g2 g3 g4 g5 g6 g7;have H6:=aA b6;clear br bR b6;go_wp2_with fail;obtain⟨w5,Jd⟩:=aF ((((((((((w.setCell ⟨t6,0,none⟩ (.int .u8 k0)).setCell ⟨t6,1,none⟩ (.int .u8 w0)).setCell ⟨t6,2,none⟩ (.int .i64 a0)).setCell ⟨t6,3,none⟩ (.int .i64 0)).setCell ⟨t6,4,none⟩ (.int .i64 0)).setCell ⟨t6,5,none⟩ (.int .i64 n)).setCell ⟨t6,6,none⟩ (.slice A1 l1 c1)).setCell ⟨t6,7,none⟩ (.slice A2 l2 c2)).alloc (.cells #[.int .u8 1,.int .u8 0,.int .i64 0] 85)));rw[<-Jd];have Hz:Bk w5 w.heap.size 85 #[.int .u8 1,.int .u8 0,.int .i64 0]:=by rw[Jd];exact Bk.new_at _ _ _ (by simp)
 have Mq:Bk w5 t6 34 #[.int .u8 k0,.int .u8 w0,.int .i64 a0,.int .i64 0,.int .i64 0,.int .i64 n,.slice A1 l1 c1,.slice A2 l2 c2]:=by
  rw[Jd];have:=((((((((H6.set_ 0 (.int .u8 k0)).set_ 1 (.int .u8 w0)).set_ 2 (.int .i64 a0)).set_ 3 (.int .i64 0)).set_ 4 (.int .i64 0)).set_ 5 (.int .i64 n)).set_ 6 (.slice A1 l1 c1)).set_ 7 (.slice A2 l2 c2)).alloc (.cells #[.int .u8 1,.int .u8 0,.int .i64 0] 85);simpa using this
 have Hm:Fr (λb=>b=t6) w w5:=by
  rw[Jd];exact Fr.alloc ((((((((Fr.own aH 0 _).own 1 _).own 2 _).own 3 _).own 4 _).own 5 _).own 6 _).own 7 _) _
 have MI:w.heap.size≠t6:=by omega
 have Z9:=Ne.symm MI;clear Jd r0 rl R1 R2 R3 R4 R5 R6 R7 R8 Rl g0 g1 g2 g3 g4 g5 g6 g7 z0 z1 z2 z3 z4 z5 z6 z7 H6 NG;have NQ:=aA (show ∀w',Fr (λb=>b=t6) w5 w'->EdS w.heap.size 1 0 0 w' from λw' hf=>⟨(Hz.fr hf MI).cell 0,(Hz.fr hf MI).cell 1,(Hz.fr hf MI).cell 2⟩);have m0:=Mq.cell 0;have m1:=Mq.cell 1;have m2:=Mq.cell 2;have y0:=Mq.frozen 0;have y1:=Mq.frozen 1;have y2:=Mq.frozen 2;have yl:=Mq.lt;have hG:=aA Mq;have Gk:=aA Hm;simp only[aD]at m0 m1 m2;clear Hz Mq Hm;have T8:=HQ.out;clear HQ;subst T8;refine zad (EdS w.heap.size 1 0 0) (λ_=>true) (by kernel_rfl) (NQ _ aH.drew) (λaC=>?_);refine zaa 0 ?_;simp only[aB];refine zaa 2 ?_;simp only[aB];refine zaa 4 ?_;simp only[aB];refine zac 1 aC ?_;simp only[aB];refine zac 3 aC ?_;simp only[aB];refine zac 5 aC ?_;simp only[aB];refine zaa 6 ?_;simp only[aB];refine zab 7 rfl (by kernel_rfl) (λKK hK=>?_);go_simp;refine hK _ _ (λ_ _=>NQ _ ((aH.drew).own 0 _)) ?_;clear hK KK;try simp only[aB]
 refine zaa 8 ?_;simp only[aB];refine zab 9 rfl (by kernel_rfl) (λKK hK=>?_);go_simp;refine hK _ _ (λ_ _=>NQ _ (((aH.drew).own 0 _).own 1 _)) ?_;clear hK KK;try simp only[aB]
 refine zaa 10 ?_;simp only[aB];refine zab 11 rfl (by kernel_rfl) (λKK hK=>?_);go_simp;refine hK _ _ (λ_ _=>NQ _ ((((aH.drew).own 0 _).own 1 _).own 2 _)) ?_;clear hK KK;try simp only[aB]
 refine zae (by kernel_rfl) ?_;refine⟨rfl,_,rfl,_,by simp[results,Tryz.results24],rfl,HU.out,?_,(Gk.trans ((((aH.drew).own 0 _).own 1 _).own 2 _))⟩;have h9:=((hG.set_ 0 (.int .u8 1)).set_ 1 (.int .u8 0)).set_ 2 (.int .i64 0);simp at h9;unfold zdG;exact h9
theorem zjF (k1 xA a1:Int)(older:List PanicEntry)(r R t6:Nat)(e0 e1 e2 e3 e4 e5 e6 e7 sc k0 w0 a0 nd ed lf vs asv:Value)(w:World)(h:bgRcS r R t6 #[e0,e1,e2,e3,e4,e5,e6,e7] sc k0 w0 a0 nd ed lf vs asv w)(PB:nd= .int .i64 0/\ed= .int .i64 0/\(∃n,lf= .int .i64 n)/\(∃A l c,vs= .slice A l c)/\(∃A l c,asv= .slice A l c)/\(∃x,k0= .int .u8 x)/\(∃x,w0= .int .u8 x)/\∃x,a0= .int .i64 x):
  CallsD Tryz.prog 24 #[.pointer (some ⟨r,0,none⟩),.pointer (some ⟨t6,0,none⟩)] (.panicking ({v:= .iface 85 (.agg #[.int .u8 k1,.int .u8 xA,.int .i64 a1]),recovered:=false}::older)) w λe u' w'=>e= .returned (.tuple #[])/\u'= .panicking ({v:= .iface 85 (.agg #[.int .u8 k1,.int .u8 xA,.int .i64 a1]),recovered:=true}::older)/\CatP t6 k1 xA a1 nd ed lf vs asv w w':=by
 obtain⟨rfl,rfl,⟨n,rfl⟩,⟨A1,l1,c1,rfl⟩,⟨A2,l2,c2,rfl⟩,⟨k0,rfl⟩,⟨w0,rfl⟩,⟨a0,rfl⟩⟩:=PB;refine callsD_of_wpS Tryz.func24 rfl λc₀ cs hu=>?_;simp only[Tryz.ntmps24,List.size_toArray,List.length_cons,List.length_nil,Nat.reduceAdd,Nat.reduceSub,Array.replicate_succ,Array.replicate_zero,List.push_toArray,List.append_toArray,List.nil_append,List.cons_append];apply wpS_seq;apply wpS_region;generalize hK:Exit.thenS _ _=K;have HK:=aA hK;clear hK;simp[wpOpsS,go_sem,recoverD,hu];have JE:=HK.out;clear HK;subst JE;simp only[Exit.thenS];refine wpS_of_wp ?_;generalize hQ:(λe a' w'=>bodyPostS _ _ _ _ _ e a' _ w')=Q;have HQ:=aA hQ;clear hQ;have HU:=aA hu;clear hu;have NG:∀W:World,(Instr.typeAssert (.iface 85 (.agg #[.int .u8 k1,.int .u8 xA,.int .i64 a1])) 20 85 true).run Tryz.prog W= .ok (.tuple #[.agg #[.int .u8 k1,.int .u8 xA,.int .i64 a1],.bool true]) W:=λ_=>by kernel_rfl
 obtain⟨br,bR,b6,DO,DP⟩:=h;have r0:=br.cell 0;have rl:=br.lt;have R1:=bR.cell 1;have R2:=bR.cell 2;have R3:=bR.cell 3;have R4:=bR.cell 4;have R5:=bR.cell 5;have R6:=bR.cell 6;have R7:=bR.cell 7;have R8:=bR.cell 8;have Rl:=bR.lt;have g0:=b6.cell 0;have g1:=b6.cell 1;have g2:=b6.cell 2;have g3:=b6.cell 3;have g4:=b6.cell 4;have g5:=b6.cell 5;have g6:=b6.cell 6;have g7:=b6.cell 7;have z0:=b6.frozen 0;have z1:=b6.frozen 1;have z2:=b6.frozen 2;have z3:=b6.frozen 3;have z4:=b6.frozen 4;have z5:=b6.frozen 5;have z6:=b6.frozen 6;have z7:=b6.frozen 7;have zl:=b6.lt;simp only[aD]at r0 R1 R2 R3 R4 R5 R6 R7 R8 g0 g1 g2 g3 g4 g5 g6 g7;have H6:=aA b6;clear br bR b6;go_wp2_with fail;obtain⟨w5,Jd⟩:=aF ((((((((((w.setCell ⟨t6,0,none⟩ (.int .u8 k0)).setCell ⟨t6,1,none⟩ (.int .u8 w0)).setCell ⟨t6,2,none⟩ (.int .i64 a0)).setCell ⟨t6,3,none⟩ (.int .i64 0)).setCell ⟨t6,4,none⟩ (.int .i64 0)).setCell ⟨t6,5,none⟩ (.int .i64 n)).setCell ⟨t6,6,none⟩ (.slice A1 l1 c1)).setCell ⟨t6,7,none⟩ (.slice A2 l2 c2)).alloc (.cells #[.int .u8 k1,.int .u8 xA,.int .i64 a1] 85)));rw[<-Jd];have Hz:Bk w5 w.heap.size 85 #[.int .u8 k1,.int .u8 xA,.int .i64 a1]:=by rw[Jd];exact Bk.new_at _ _ _ (by simp)
 have Mq:Bk w5 t6 34 #[.int .u8 k0,.int .u8 w0,.int .i64 a0,.int .i64 0,.int .i64 0,.int .i64 n,.slice A1 l1 c1,.slice A2 l2 c2]:=by
  rw[Jd];have:=((((((((H6.set_ 0 (.int .u8 k0)).set_ 1 (.int .u8 w0)).set_ 2 (.int .i64 a0)).set_ 3 (.int .i64 0)).set_ 4 (.int .i64 0)).set_ 5 (.int .i64 n)).set_ 6 (.slice A1 l1 c1)).set_ 7 (.slice A2 l2 c2)).alloc (.cells #[.int .u8 k1,.int .u8 xA,.int .i64 a1] 85);simpa using this
 have Hm:Fr (λb=>b=t6) w w5:=by
  rw[Jd];exact Fr.alloc ((((((((Fr.own aH 0 _).own 1 _).own 2 _).own 3 _).own 4 _).own 5 _).own 6 _).own 7 _) _
 have MI:w.heap.size≠t6:=by omega
 have Z9:=Ne.symm MI;clear Jd r0 rl R1 R2 R3 R4 R5 R6 R7 R8 Rl g0 g1 g2 g3 g4 g5 g6 g7 z0 z1 z2 z3 z4 z5 z6 z7 H6 NG;have NQ:=aA (show ∀w',Fr (λb=>b=t6) w5 w'->EdS w.heap.size k1 xA a1 w' from λw' hf=>⟨(Hz.fr hf MI).cell 0,(Hz.fr hf MI).cell 1,(Hz.fr hf MI).cell 2⟩);have m0:=Mq.cell 0;have m1:=Mq.cell 1;have m2:=Mq.cell 2;have y0:=Mq.frozen 0;have y1:=Mq.frozen 1;have y2:=Mq.frozen 2;have yl:=Mq.lt;have hG:=aA Mq;have Gk:=aA Hm;simp only[aD]at m0 m1 m2;clear Hz Mq Hm;have T8:=HQ.out;clear HQ;subst T8;refine zad (EdS w.heap.size k1 xA a1) (λ_=>true) (by kernel_rfl) (NQ _ aH.drew) (λaC=>?_);refine zaa 0 ?_;simp only[aB];refine zaa 2 ?_;simp only[aB];refine zaa 4 ?_;simp only[aB];refine zac 1 aC ?_;simp only[aB];refine zac 3 aC ?_;simp only[aB];refine zac 5 aC ?_;simp only[aB];refine zaa 6 ?_;simp only[aB];refine zab 7 rfl (by kernel_rfl) (λKK hK=>?_);go_simp;refine hK _ _ (λ_ _=>NQ _ ((aH.drew).own 0 _)) ?_;clear hK KK;try simp only[aB]
 refine zaa 8 ?_;simp only[aB];refine zab 9 rfl (by kernel_rfl) (λKK hK=>?_);go_simp;refine hK _ _ (λ_ _=>NQ _ (((aH.drew).own 0 _).own 1 _)) ?_;clear hK KK;try simp only[aB]
 refine zaa 10 ?_;simp only[aB];refine zab 11 rfl (by kernel_rfl) (λKK hK=>?_);go_simp;refine hK _ _ (λ_ _=>NQ _ ((((aH.drew).own 0 _).own 1 _).own 2 _)) ?_;clear hK KK;try simp only[aB]
 refine zae (by kernel_rfl) ?_;refine⟨rfl,_,rfl,_,by simp[results,Tryz.results24],rfl,rfl,?_,(Gk.trans ((((aH.drew).own 0 _).own 1 _).own 2 _))⟩;have h9:=((hG.set_ 0 (.int .u8 k1)).set_ 1 (.int .u8 xA)).set_ 2 (.int .i64 a1);simp at h9;unfold zdG;exact h9
def valH (n:Bn)(ps:List (List UInt8))(k:Int)(nm:ByteArray)(m at_:Int)(args:Exs)(s:Bs):Ho ⊕ Int:=
 match valL n ps s args with
 | .inl h=> .inl h
 | .inr l=>zdt n ps s k nm m at_ l
def InSc (n:Bn)(ps:List (List UInt8))(nm:ByteArray):Prop:=(∃k,posI ps nm.data.toList=some k)\/∃i,posI n.vars nm.data.toList=some i
theorem zcF:∀ {l:List (List UInt8)} {t:List UInt8} {k:Nat},posI l t=some k->k < l.length
 | [],_,_,h=>by simp[posI]at h
 |x::r,t,k,h=>by
  unfold posI at h;by_cases e:x=t
  ·rw[if_pos e]at h;obtain rfl:=Option.some.inj h;simp
  ·rw[if_neg e]at h;cases e2:posI r t with
   |none=>rw[e2]at h;simp at h
   |some j=>
    rw[e2]at h;simp at h;have:=zcF e2;simp only[List.length_cons];omega
theorem znr (w:World):(zeroValue 78).run Tryz.prog w= .ok (.pointer none) w:=by kernel_rfl
theorem zlE (w:World):(zeroValue 28).run Tryz.prog w= .ok (.slice none 0 0) w:=by kernel_rfl
theorem zeK {C:BgC}{lo hi:Nat}{w W:World}{ps:List (List UInt8)}{oc:List Nat}{nb:Nat}{s:Bs}(h:RunAt C lo hi w W ps oc nb s){nm:ByteArray}(hs:nm.size<=9223372036854775807)(hi:InSc C.n ps nm):
  ∃b o,(∀W',Fr (C.MutO oc) W W'->(Instr.lookup 75 (.map (some nb)) (.string nm) false).run Tryz.prog W'= .ok (.pointer (some ⟨b,o,none⟩)) W')/\(∀t W',BgSt C oc t W'->W'.cell? ⟨b,o,none⟩=some (.int .i64 (getV C.n ps t nm))/\is64 (getV C.n ps t nm)/\W'.frozen? ⟨b,o,none⟩=false/\b < W'.heap.size)/\
   (∀t W' x,C.Ok->BgSt C oc t W'->is64 x->BgSt C oc (setB C.n ps t nm x) (W'.setCell ⟨b,o,none⟩ (.int .i64 x)))/\C.MutO oc b/\(C.Ok->b≠C.R):=by
 obtain⟨N,f,hm,hN,hv,hp⟩:=h.sc.map;have hl:∀a,f nm.data.toList=some a->∀W',Fr (C.MutO oc) W W'->(Instr.lookup 75 (.map (some nb)) (.string nm) false).run Tryz.prog W'= .ok a W':=by
  intro a ha W' hf;have:=(hm.fr hf h.sc.out).get (mt:=75) Tryz.underlying75 hs (znr W');rw[ha]at this;exact this
 cases hk:posI ps nm.data.toList with
 |some k=>
  obtain⟨b,hb,hf⟩:=hp _ _ hk;have Vt:=(List.getElem?_eq_some_iff.1 hb).1;refine⟨b,0,hl _ hf,λt W' ht=>?_,λt W' x ho ht hx=>?_,.inr (List.mem_of_getElem? hb),λho e=>by have h1:=h.st.top b (List.mem_of_getElem? hb);have h2:=ho.rT;omega⟩
  ·have M4:k < t.own.length:=by rw[ht.len];exact Vt
   have e:t.own[k]?=some (getV C.n ps t nm):=by
    unfold getV;simp only[hk,List.getD_eq_getElem?_getD,List.getElem?_eq_getElem M4,Option.getD_some]
   have Hr:=ht.own k b _ hb e;exact⟨Hr.cell 0,ht.oi _ (List.mem_of_getElem? e),Hr.frozen 0,Hr.lt⟩
  ·unfold setB;simp only[hk];exact ht.bgSetO ho hb hx
 |none=>
  obtain⟨i,hi⟩:∃i,posI C.n.vars nm.data.toList=some i:=by
   rcases hi with⟨k,Qa⟩|hi
   ·rw[hk]at Qa;cases Qa
   ·exact hi
  refine⟨C.V,i,hl _ (hv _ _ hi),λt W' ht=>?_,λt W' x ho ht hx=>?_,.inl (.inr (.inl rfl)),λho e=>ho.rv e.symm⟩
  ·have M4:i < t.vs.length:=by rw[ht.nv];exact zcF hi
   have e:t.vs[i]?=some (getV C.n ps t nm):=by
    unfold getV;simp only[hk,hi,Option.getD_some,List.getD_eq_getElem?_getD,List.getElem?_eq_getElem M4]
   refine⟨?_,ht.sto.i64.1 _ (List.mem_of_getElem? e),ht.sto.v.frozen i,ht.sto.v.lt⟩;rw[ht.sto.v.cell i];simp[intL,e]
  ·unfold setB;simp only[hk,hi,Option.getD_some];exact ht.setV ho i hx
section
variable {C:BgC} {ps:List (List UInt8)} {w:World} {lo hi q:Nat} {k:Int} {nm:ByteArray} {m at_:Int} {A:Option Addr} {l c:Nat}
theorem val_1 (ho:C.Ok)(hq:Bx lo hi w q 175 #[.int .u8 k,.string nm,.int .i64 m,.slice A l c,.int .i64 at_])(hT:C.T<=lo)(hm:is64 m):ValP C ps (.func (.func 227) #[] #[.pointer (some ⟨q,0,none⟩)]) (λ_=> .inr m) lo hi w:=by
 refine⟨_,_,rfl,enters_of Tryz.func227 (by kernel_rfl) rfl,λW oc nb s h=>?_⟩;have c2:=(h.bx ho hT hq).cell 2;simp only[aD]at c2;have HQ:=aA (show ValQ (.inr m) W (.returned (.int .i64 m)) W from⟨⟨rfl,hm⟩,aH⟩);clear h hq hT hm ho;show Calls Tryz.prog 227 #[.map (some nb),.pointer (some ⟨q,0,none⟩)] W _
 go_enter Tryz.func227,Tryz.ntmps227;go_wp2_with fail;go_ret;exact HQ.out
theorem val_2 (ho:C.Ok)(hq:Bx lo hi w q 175 #[.int .u8 k,.string nm,.int .i64 m,.slice A l c,.int .i64 at_])(hT:C.T<=lo)(hs:nm.size<=9223372036854775807)(MG:InSc C.n ps nm):ValP C ps (.func (.func 228) #[] #[.pointer (some ⟨q,0,none⟩)]) (λs=> .inr (getV C.n ps s nm)) lo hi w:=by
 refine⟨_,_,rfl,enters_of Tryz.func228 (by kernel_rfl) rfl,λW oc nb s h=>?_⟩;have c1:=(h.bx ho hT hq).cell 1;simp only[aD]at c1;obtain⟨b,o,hl,hc,_⟩:=zeK h hs MG;have Nx:=hl W aH;obtain⟨cb,hx,_,_⟩:=hc s W h.st;obtain⟨x,ex⟩:=aF (getV C.n ps s nm);show Calls Tryz.prog 228 #[.map (some nb),.pointer (some ⟨q,0,none⟩)] W (ValQ (.inr (getV C.n ps s nm)) W)
 rw[<-ex]at cb hx ⊢;have HQ:=aA (show ValQ (.inr x) W (.returned (.int .i64 x)) W from⟨⟨rfl,hx⟩,aH⟩);clear h hq hT hs ho MG hl hc ex hx;show Calls Tryz.prog 228 #[.map (some nb),.pointer (some ⟨q,0,none⟩)] W _
 go_enter Tryz.func228,Tryz.ntmps228;go_wp2_with fail;go_ret;exact HQ.out
theorem val_4:ValP C ps (.func (.func 230) #[] #[]) (λ_=> .inr 0) lo hi w:=by
 refine⟨_,_,rfl,enters_of Tryz.func230 (by kernel_rfl) rfl,λW oc nb s h=>?_⟩;have HQ:=aA (show ValQ (.inr 0) W (.returned (.int .i64 0)) W from⟨⟨rfl,by unfold is64;omega⟩,aH⟩);clear h;show Calls Tryz.prog 230 #[.map (some nb)] W _
 go_enter Tryz.func230,Tryz.ntmps230;go_wp2_with fail;go_ret;exact HQ.out
def OpS (q x1 x2:Nat)(k at_:Int)(v1 v2:Value)(W:World):Prop:=W.cell? ⟨q,0,none⟩=some (.int .u8 k)/\W.cell? ⟨q,4,none⟩=some (.int .i64 at_)/\W.cell? ⟨x1,0,none⟩=some v1/\W.cell? ⟨x2,0,none⟩=some v2
def opV (k at_:Int)(X0 X1:Bs->Ho ⊕ Int)(s:Bs):Ho ⊕ Int:=
 match X0 s with
 | .inl h=> .inl h
 | .inr a=>match X1 s with
  | .inl h=> .inl h
  | .inr b=>if opW k a b=0 then .inr (opR k a b)else .inl ⟨5,opW k a b,at_⟩
theorem val_5 {x1 x2:Nat}{v1 v2:Value}{X0 X1:Bs->Ho ⊕ Int}(ho:C.Ok)(hT:C.T<=lo)(hq:Bx lo hi w q 175 #[.int .u8 k,.string nm,.int .i64 m,.slice A l c,.int .i64 at_])(h1:Bx lo hi w x1 278 #[v1])(h2:Bx lo hi w x2 277 #[v2])(hk:4<=k/\k<=11)
  (F5:ValP C ps v1 X0 lo hi w) (Kv:ValP C ps v2 X1 lo hi w):ValP C ps (.func (.func 231) #[] #[.pointer (some ⟨x1,0,none⟩),.pointer (some ⟨q,0,none⟩),.pointer (some ⟨x2,0,none⟩)]) (opV k at_ X0 X1) lo hi w:=by
 obtain⟨g1,xi,rfl,Jk,Hn⟩:=F5;obtain⟨g2,xj,rfl,Lz,Ht⟩:=Kv;refine⟨_,_,rfl,enters_of Tryz.func231 (by kernel_rfl) rfl,λW oc nb s h=>?_⟩;have hs:∀W',Fr NoT W W'->OpS q x1 x2 k at_ (.func (.func g1) #[] xi) (.func (.func g2) #[] xj) W':=λW' hf=>
  have h':=h.fr0 ho hf
  ⟨(h'.bx ho hT hq).cell 0,(h'.bx ho hT hq).cell 4,(h'.bx ho hT h1).cell 0,(h'.bx ho hT h2).cell 0⟩
 have U6:=hs W aH;have HS:=aA hs;have LL:=aA (λ(W':World)(hf:Fr NoT W W')=>Ht W' oc nb s (h.fr0 ho hf));have HA:=aA (λa b (W':World) (ha:is64 a) (hb:is64 b)=>zk8 k a b W' hk.1 hk.2 ha hb);have Fz:=aA (Hn W oc nb s h);obtain⟨c0,_,c1,_⟩:=U6;obtain⟨r,hr⟩:=aF (opV k at_ X0 X1 s);unfold Enters at Jk Lz;clear Hn Ht h hs hq h1 h2 hk ho hT;show Calls Tryz.prog 231 #[.map (some nb),.pointer (some ⟨x1,0,none⟩),.pointer (some ⟨q,0,none⟩),.pointer (some ⟨x2,0,none⟩)] W (ValQ (opV k at_ X0 X1 s) W)
 rw[<-hr];have HV:=aA hr;clear hr;go_enter Tryz.func231,Tryz.ntmps231;go_wp2_with fail;refine Fz.mono ?_;rintro e w1 ⟨he,Hd⟩;rcases JW:X0 s with WM|a
 ·rw[JW]at he;obtain rfl:=he;exact⟨rfl,by rw[HV.out];unfold opV;rw[JW];rfl,Hd⟩
 rw[JW]at he;obtain⟨rfl,ha⟩:=he;have Hl:=aA Hd;have WN:=aA ha;clear Hd ha c0 c1;go_wp2_with fail;refine zad (OpS q x1 x2 k at_ (.func (.func g1) #[] xi) (.func (.func g2) #[] xj)) (λ_=>true) (by kernel_rfl) (HS _ (Hl.drew)) (λaC=>?_);refine zaa 0 ?_;simp only[aB];refine zaa 2 ?_;simp only[aB];refine zaa 4 ?_;simp only[aB];refine zac 1 aC ?_;simp only[aB];refine zac 3 aC ?_;simp only[aB];refine zab 5 rfl (by kernel_rfl) (λKK hK=>?_);go_simp;refine(LL _ Hl.drew).mono ?_;rintro e w2 ⟨he,He⟩;rcases Ff:X1 s with hH|b
 ·rw[Ff]at he;obtain rfl:=he;exact⟨rfl,by rw[HV.out];unfold opV;rw[JW,Ff];rfl,Hl.drew.trans He⟩
 rw[Ff]at he;obtain⟨rfl,hb⟩:=he;have Hu:=aA (Hl.drew.trans He);have hJ:=aA hb;clear He hb;try dsimp only
 refine hK _ _ (λ_ _=>HS _ Hu.out) ?_;clear hK KK;try simp only[aB]
 refine zab 6 rfl (by kernel_rfl) (λKK hK=>?_);go_simp;go_at_call 157;refine(HA _ _ _ WN.out hJ.out).mono ?_;rintro _ w3 ⟨rfl,Gg⟩;have Gi:=aA (Hu.trans (Fr.below Gg));clear Gg;try dsimp only
 refine hK _ _ (λ_ _=>HS _ Gi.out) ?_;clear hK KK;try simp only[aB]
 refine zaa 7 ?_;simp only[aB];refine zaa 8 ?_;simp only[aB];refine zaa 11 ?_;simp only[aB];refine zaa 9 ?_;simp only[aB];refine zaa 12 ?_;simp only[aB];refine zaa 10 ?_;simp only[aB];refine zaa 13 ?_;simp only[aB];refine zae (by kernel_rfl) ?_;by_cases hv:opW k a b=0
 ·have e1:(opW k a b != 0)=false:=by simpa using hv
  have HE:=aA (show ziv r (.returned (.int .i64 (opR k a b))) by rw[HV.out];unfold opV;rw[JW,Ff];simp only[if_pos hv];exact⟨rfl,znd _ _ _ WN.out⟩);clear hv;go_wp2_with fail;go_ret;exact⟨HE.out,Gi.out⟩
 ·have e1:(opW k a b != 0)=true:=by simpa using hv
  have HE:=aA (show ziv r (endE ⟨5,opW k a b,at_⟩) by rw[HV.out];unfold opV;rw[JW,Ff];simp only[if_neg hv];rfl);have KT:=HS _ Gi.out;have c4:=KT.2.1;clear hv;go_wp2_with fail;exact⟨rfl,HE.out,Gi.out⟩
end
section
variable {C:BgC} {ps:List (List UInt8)} {w:World} {lo hi q:Nat} {k:Int} {nm:ByteArray} {m at_:Int} {A:Option Addr} {l c:Nat}
def LdS (C:BgC)(p q x1:Nat)(nm:ByteArray)(at_:Int)(v1 vs:Value)(W:World):Prop:=W.cell? ⟨p,0,none⟩=some (.pointer (some ⟨C.P,0,none⟩))/\W.cell? ⟨C.P,1,none⟩=some (.map (some C.MA))/\W.cell? ⟨q,1,none⟩=some (.string nm)/\W.cell? ⟨q,4,none⟩=some (.int .i64 at_)/\W.cell? ⟨x1,0,none⟩=some v1/\
 (Instr.lookup 70 (.map (some C.MA)) (.string nm) false).run Tryz.prog W= .ok vs W
def ldV (n:Bn)(nm:ByteArray)(at_:Int)(X0:Bs->Ho ⊕ Int)(s:Bs):Ho ⊕ Int:=
 match X0 s with
 | .inl h=> .inl h
 | .inr a=>if 0<=a/\a < (s.ls.getD (arrI n nm) []).length then .inr ((s.ls.getD (arrI n nm) []).getD a.toNat 0)else .inl ⟨5,5,at_⟩
theorem zf5 (GE:PgAt C w){nm:ByteArray}(hs:nm.size<=9223372036854775807){i:Nat}(Mr:posI C.n.arrs nm.data.toList=some i){s:Bs}{oc:List Nat}{W:World}(Gu:BgSt C oc s W):
  ∃b l,C.bs[i]?=some b/\s.ls[i]?=some l/\s.ls.getD (arrI C.n nm) []=l/\l.length<=1000/\Bk W b 3 (intL l).toArray /\(∀x∈l,is64 x)/\(Instr.lookup 70 (.map (some C.MA)) (.string nm) false).run Tryz.prog w= .ok (.slice (some ⟨b,0,none⟩) l.length l.length) w:=by
 obtain⟨N,f,hm,hf⟩:=GE.ma;obtain⟨b,hb,hl⟩:=hf _ _ Mr;have Nm:i < s.ls.length:=by rw[Gu.na];exact zcF Mr
 obtain⟨l,e⟩:∃l,s.ls[i]?=some l:=⟨_,List.getElem?_eq_getElem Nm⟩;have hv:=hl s oc W l Gu e;have:=hm.get (mt:=70) Tryz.underlying70 hs (zlE w);rw[hv]at this;refine⟨b,l,hb,e,?_,Gu.sto.few.2.2 l (List.mem_of_getElem? e),(Gu.sto.each i b l hb e).2,λx hx=>Gu.sto.i64.2 l (List.mem_of_getElem? e) x hx,this⟩;unfold arrI;rw[Mr,Option.getD_some,List.getD_eq_getElem?_getD,e,Option.getD_some]
theorem val_3 {p x1:Nat}{v1:Value}{X0:Bs->Ho ⊕ Int}{i:Nat}(ho:C.Ok)(hT:C.T<=lo)(GE:PgAt C w)(hp:Bx lo hi w p 69 #[.pointer (some ⟨C.P,0,none⟩)])(hq:Bx lo hi w q 175 #[.int .u8 k,.string nm,.int .i64 m,.slice A l c,.int .i64 at_])
  (h1:Bx lo hi w x1 278 #[v1]) (hs:nm.size<=9223372036854775807) (Mr:posI C.n.arrs nm.data.toList=some i) (F5:ValP C ps v1 X0 lo hi w):
  ValP C ps (.func (.func 229) #[] #[.pointer (some ⟨p,0,none⟩),.pointer (some ⟨q,0,none⟩),.pointer (some ⟨x1,0,none⟩)]) (ldV C.n nm at_ X0) lo hi w:=by
 obtain⟨g1,xi,rfl,Jk,Hn⟩:=F5;refine⟨_,_,rfl,enters_of Tryz.func229 (by kernel_rfl) rfl,λW oc nb s h=>?_⟩;obtain⟨b,l,hb,hl,GY,Fw,Hr,Kg,_⟩:=zf5 (GE.later ho h.lat) hs Mr h.st;have hS:∀W',Fr NoT W W'->LdS C p q x1 nm at_ (.func (.func g1) #[] xi) (.slice (some ⟨b,0,none⟩) l.length l.length) W':=λW' hf=>by
  have h':=h.fr0 ho hf;have Q3:=h'.lat;obtain⟨b',l',GO,N9,_,_,_,_,J5⟩:=zf5 (GE.later ho Q3) hs Mr (h.st.fr0 ho hf);rw[hb]at GO;rw[hl]at N9;obtain rfl:=Option.some.inj GO;obtain rfl:=Option.some.inj N9;exact⟨(h'.bx ho hT hp).cell 0,(GE.later ho Q3).p.cell 1,(h'.bx ho hT hq).cell 1,(h'.bx ho hT hq).cell 4,(h'.bx ho hT h1).cell 0,J5⟩
 have HS:=aA hS;have Fz:=aA (λ(W':World)(hf:Fr NoT W W')=>Hn W' oc nb s (h.fr0 ho hf));have HB:=aA (λ(W':World)(hf:Fr NoT W W')=>Hr.fr0 hf);obtain⟨r,hr⟩:=aF (ldV C.n nm at_ X0 s);have HE:=aA (λ(W':World)=>zeJ b l.length);have S4:=aA Kg;obtain⟨z,hz⟩:=aF l.length;have HZ:=aA hz;have Vv:=aA GY;unfold Enters at Jk;rw[<-hz]at HS HE Fw;show Calls Tryz.prog 229 #[.map (some nb),.pointer (some ⟨p,0,none⟩),.pointer (some ⟨q,0,none⟩),.pointer (some ⟨x1,0,none⟩)] W (ValQ (ldV C.n nm at_ X0 s) W)
 rw[<-hr];have HV:=aA hr;clear hr hS Hn h hq hp GE h1 ho hT hb hl GY Hr Kg hz hs Mr;go_enter Tryz.func229,Tryz.ntmps229;go_wp2_with fail;refine zad (LdS C p q x1 nm at_ (.func (.func g1) #[] xi) (.slice (some ⟨b,0,none⟩) z z)) (λ_=>true) (by kernel_rfl) (HS _ (Fr.refl NoT W).drew) (λaC=>?_);refine zaa 4 ?_;simp only[aB];refine zaa 8 ?_;simp only[aB];refine zaa 10 ?_;simp only[aB];refine zac 0 aC ?_;simp only[aB];refine zac 5 aC ?_;simp only[aB];refine zac 7 aC ?_;simp only[aB];refine zac 11 aC ?_;simp only[aB];refine zaa 1 ?_;simp only[aB];refine zaa 2 ?_;simp only[aB];refine zac 3 aC ?_;simp only[aB];refine zac 6 aC ?_;simp only[aB];refine zab 9 rfl (by kernel_rfl) (λKK hK=>?_);go_simp;refine(Fz _ (Fr.refl NoT W).drew).mono ?_;rintro e w2 ⟨he,He⟩;rcases JW:X0 s with WM|a
 ·rw[JW]at he;obtain rfl:=he;exact⟨rfl,by rw[HV.out];unfold ldV;rw[JW];rfl,(Fr.refl NoT W).drew.trans He⟩
 rw[JW]at he;obtain⟨rfl,ha⟩:=he;have Hu:=aA ((Fr.refl NoT W).drew.trans He);clear He;try dsimp only
 refine hK _ _ (λ_ _=>HS _ Hu.out) ?_;clear hK KK;try simp only[aB]
 refine zab 12 rfl (by kernel_rfl) (λKK hK=>?_);go_simp;go_at_call 177;refine(HE w2 a at_ Fw _).mono ?_;rintro e w3 ⟨rfl,Ku⟩;rcases Ku with⟨h0,h1,rfl⟩|⟨h0,rfl⟩;case inr=>exact⟨rfl,by rw[HV.out];unfold ldV;rw[JW,Vv.out];simp only;rw[<-HZ.out,if_neg h0];rfl,Hu.out⟩
 obtain⟨j,rfl⟩:∃j:Nat,a=j:=⟨a.toNat,by omega⟩;have RE:j < l.length:=by rw[<-HZ.out];omega
 obtain⟨x,hx⟩:∃x,l[j]?=some x:=⟨_,List.getElem?_eq_getElem RE⟩;have GC:=(HB _ Hu.out).cell j;simp only[List.getElem?_toArray,intL,List.getElem?_map,hx,Option.map_some]at GC;have HR:=aA (show ziv r (.returned (.int .i64 x)) by
  rw[HV.out];unfold ldV;rw[JW,Vv.out];simp only;rw[<-HZ.out,if_pos ⟨h0,h1⟩,Int.toNat_natCast,List.getD_eq_getElem?_getD,hx];exact⟨rfl,S4 x (List.mem_of_getElem? hx)⟩)
 clear hx RE h0 h1 ha;try dsimp only
 rw[Int.toNat_natCast];refine hK _ _ (λ_ h=>h) ?_;clear hK KK;try simp only[aB]
 refine zaa 13 ?_;simp only[aB];refine zab 14 rfl (by kernel_rfl) (λKK hK=>?_);go_simp;refine hK _ _ (λ_ h=>h) ?_;clear hK KK;try simp only[aB]
 refine zaa 15 ?_;simp only[aB];refine zae (by kernel_rfl) ?_;go_wp2_with fail;go_ret;exact⟨HR.out,Hu.out⟩
end
