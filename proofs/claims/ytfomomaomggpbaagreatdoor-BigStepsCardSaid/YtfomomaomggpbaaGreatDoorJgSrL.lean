/- What both runs answer; more room for a graph; what ref14's Run begins with. -/
import Derived.Deep.RegionWith
import Derived.Test.YtfomomaomggpbaaGreatDoorBgRun
set_option linter.all false
namespace Go.Proofs.YtfomomaomggpbaaGreatDoor
open Go.RowKit Go.Shelf
theorem IsSl.up {w:World}{B B':Nat}{l:List Int}{A:Option Addr}{c:Nat}(h:B<=B')(hx:IsSl w B l A c):IsSl w B' l A c:=
 ⟨hx.1,hx.2.1,λhp=>by obtain⟨b,o,e,hh⟩:=hx.2.2 hp;exact⟨b,o,e,ltq hh.1 h,hh.2⟩⟩
theorem Sto.lower {w:World}{L L':Nat}{vs:List Int}{ls:List (List Int)}{bv:Nat}{A:Option Addr}{c:Nat}{bs:List Nat}(hL:L<=L')(h:Sto w L' vs ls bv A c bs):Sto w L vs ls bv A c bs:=by
 refine⟨h.v,leq9 hL h.vl,⟨h.row.1,?_⟩,h.len,λi b l hi hl=>⟨leq9 hL (h.each i b l hi hl).1,(h.each i b l hi hl).2⟩,h.nd,h.nv,h.rv,h.rb,h.i64,h.few⟩;rcases h.row.2 with h2|⟨g,cap,cur,e,h3,r⟩
 ·exact .inl h2
 ·exact .inr ⟨g,cap,cur,e,leq9 hL h3,r⟩
def zkU (w:World)(en:En)(v:Value):Prop:=
 ∃Av cv Aa ca,v= .agg #[.int .u8 en.kind,.int .u8 en.wrong,.int .i64 en.at_,.int .i64 en.node,.int .i64 en.edge,.int .i64 en.left,.slice Av en.vs.length cv,.slice Aa en.ls.length ca]/\StSl w w.heap.size en.vs en.ls Av cv Aa ca
theorem zn7:(Tryz.prog.info? 34).map (·.size)=some 8:=by kernel_rfl
def enEq (a b:En):Bool:=eq6 a.kind b.kind a.wrong b.wrong a.at_ b.at_ a.node b.node a.edge b.edge a.left b.left (a.vs==b.vs) (a.ls==b.ls)
theorem zkV (a:En):enEq a a=true:=by simp[enEq,eq6]
theorem zkW {w:World}{a b:En}{va vb:Value}(h:zkU w a va)(h':zkU w b vb):Calls Tryz.prog 15 #[va,vb] w (zcB (enEq a b) w):=by
 obtain⟨Av,cv,Aa,ca,rfl,hs⟩:=h;obtain⟨yF,yH,yG,yI,rfl,Sm⟩:=h';exact zlZ _ _ _ _ _ _ _ _ _ _ _ _ a.vs b.vs a.ls b.ls Av yF Aa yG cv yH ca yI w.heap.size w (lrq _) hs Sm
open Go.RowKit Go.Shelf Go.Maps
theorem zkX {t:Tre}{n:Nat}{steps:Int}(h0:bigE t n steps=0):OkT t:=by
 unfold bigE at h0;split at h0
 ·rename_i h;exact zfw h
 ·exact zfw h0
theorem zkY {t:Tre}(hz:SzT t)(n:Nat)(steps:Int)(s:Bs):∃h u,bigE t n steps=0->RunT (bnOf t) (.all [] t.main) s h u:=by
 by_cases h0:bigE t n steps=0
 ·obtain⟨h1,h2⟩:=zkR (zkX h0) hz;obtain⟨h,u,r⟩:=zmO h1 (s.left+1) s (by omega) [] _ h2;exact⟨h,u,λ_=>r⟩
 ·exact⟨none,s,λe=>absurd e h0⟩
def enB (h:Option Ho)(u:Bs):En:=⟨(hoD h).kind,(hoD h).wrong,(hoD h).at_,0,0,u.left,u.vs,u.ls⟩
theorem zm5 {T U:Nat->Prop}{a b c:World}(h:Fr T a b)(k:Fr U b c)(ht:∀i,i < a.heap.size->U i->T i):Fr T a c:=
 ⟨k.os.trans h.os,k.tape.trans h.tape,k.output.trans h.output,leq9 h.size k.size,λi hi hn=>(k.block i (ltq hi h.size) λhu=>hn (ht i hi hu)).trans (h.block i hi hn)⟩
theorem zdG {w w':World}{L:Nat}{vs:List Int}{ls:List (List Int)}{bv:Nat}{A:Option Addr}{c:Nat}{bs:List Nat}{U:Nat->Prop}(h:Sto w L vs ls bv A c bs)(hf:Fr U w w')(hU:∀b,U b->b < L\/w.heap.size<=b):Sto w' L vs ls bv A c bs:=by
 refine h.fr hf (λe=>?_) (λb hb e=>?_) λb hb e=>?_
 ·have:=hU _ e;have:=h.vl;have:=h.v.lt;omega
 ·have:=hU _ e;obtain⟨j,hj⟩:=List.getElem?_of_mem hb;have TK:j < ls.length:=by rw[<-h.len];exact(List.getElem?_eq_some_iff.1 hj).1
  have:=(h.each j b _ hj (List.getElem?_eq_getElem TK)).2.lt;have:=(h.each j b _ hj (List.getElem?_eq_getElem TK)).1;omega
 ·have:=hU _ e;have:=h.row.lt b hb;omega
def BigU (E:Int)(h:Option Ho)(u:Bs)(W:World)(e:Ending)(w':World):Prop:=
 Fr NoT W w'/\∃k0 k1 k2 k5 A6 n6 c6 A7 n7 c7,e= .returned (.tuple #[.agg #[.int .u8 k0,.int .u8 k1,.int .i64 k2,.int .i64 0,.int .i64 0,.int .i64 k5,.slice A6 n6 c6,.slice A7 n7 c7],.int .i64 E])/\
  (E=0->k0=(hoD h).kind /\k1=(hoD h).wrong /\k2=(hoD h).at_ /\k5=u.left/\n6=u.vs.length/\n7=u.ls.length/\c6=u.vs.length/\∃V bs,A6=some ⟨V,0,none⟩/\Sto w' W.heap.size u.vs u.ls V A7 c7 bs)/\(E≠0->k5=0)
theorem run_u (t:Tre)(script:List Int)(steps:Int)(h:Option Ho)(u:Bs)(W:World)(S:Nat->Prop)(Z:Prop)(Av Aa Ap Am As:Option Addr)(cv ca cp cm cs:Nat)(he:SpEnv W)(hS:∀b,S b->b < W.heap.size)(Ht:SzT t)(hx:TrR W S Z t Av Aa Ap Am cv ca cp cm)(Kx:IsSl W W.heap.size script As cs)(KB:in64 steps)
  (GH:bigE t script.length steps=0->RunT (bnOf t) (.all [] t.main) (bs0 t script steps) h u):
  Calls Tryz.prog 9 #[trV t Av Aa Ap Am cv ca cp cm,.slice As script.length cs,.int .i64 steps] W (BigU (bigE t script.length steps) h u W):=by
 refine(zm4 t script steps h u W S Z Av Aa Ap Am As cv ca cp cm cs he hS Ht hx Kx KB GH).mono ?_;rintro e w' ⟨hf,h1⟩;refine⟨hf,?_⟩;by_cases h0:bigE t script.length steps=0
 ·rw[if_pos h0]at h1;obtain⟨V,A,c,bs,rfl,Gu⟩:=h1;exact⟨_,_,_,_,_,_,_,_,_,_,by rw[h0];rfl,λ_=>⟨rfl,rfl,rfl,rfl,rfl,rfl,rfl,V,bs,rfl,Gu⟩,λh=>absurd h0 h⟩
 ·rw[if_neg h0]at h1;exact⟨_,_,_,_,_,_,_,_,_,_,h1,λh=>absurd h h0,λ_=>rfl⟩
theorem zkZ {w:World}{L:Nat}{h:Option Ho}{u:Bs}{k0 k1 k2 k5:Int}{n6 n7 c6 c7 V:Nat}{A7:Option Addr}{bs:List Nat}(h0:k0=(hoD h).kind)(h1:k1=(hoD h).wrong)(h2:k2=(hoD h).at_)(h5:k5=u.left)(h6:n6=u.vs.length)(h7:n7=u.ls.length)(h8:c6=u.vs.length)(Gu:Sto w L u.vs u.ls V A7 c7 bs):
  zkU w (enB h u) (.agg #[.int .u8 k0,.int .u8 k1,.int .i64 k2,.int .i64 0,.int .i64 0,.int .i64 k5,.slice (some ⟨V,0,none⟩) n6 c6,.slice A7 n7 c7]):=by
 subst h0 h1 h2 h5 h6 h7 h8;exact⟨_,_,_,_,rfl,Gu.stSl⟩
