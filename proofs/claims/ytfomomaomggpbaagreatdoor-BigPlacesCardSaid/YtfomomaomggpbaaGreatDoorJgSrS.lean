/- ref14. -/
import Derived.Deep.RegionHeld2
import Derived.Test.YtfomomaomggpbaaGreatDoorBgRun
set_option linter.all false
namespace Go.Proofs.YtfomomaomggpbaaGreatDoor
open Go.RowKit Go.Shelf
theorem zlX (w:World)(c0 c1:Array Value)(t0 t1:TypeId):Bk ((w.alloc (.cells c0 t0)).alloc (.cells c1 t1)) w.heap.size t0 c0/\Bk ((w.alloc (.cells c0 t0)).alloc (.cells c1 t1)) (w.heap.size+1) t1 c1:=
 ⟨(Bk.new _ _ _).alloc _,Bk.new_at _ _ _ (by simp)⟩
theorem Fr.low {T:Nat->Prop}{w w':World}(h:Fr T w w'){b:Nat}(hb:b < w.heap.size):b < w'.heap.size:=aM hb h.size
theorem IsSl.up {w:World}{B B':Nat}{l:List Int}{A:Option Addr}{c:Nat}(h:B<=B')(hx:IsSl w B l A c):IsSl w B' l A c:=
 ⟨hx.1,hx.2.1,λhp=>by obtain⟨b,o,e,hh⟩:=hx.2.2 hp;exact⟨b,o,e,aM hh.1 h,hh.2⟩⟩
theorem Sto.lower {w:World}{L L':Nat}{vs:List Int}{ls:List (List Int)}{bv:Nat}{A:Option Addr}{c:Nat}{bs:List Nat}(hL:L<=L')(h:Sto w L' vs ls bv A c bs):Sto w L vs ls bv A c bs:=by
 refine⟨h.v,aK hL h.vl,⟨h.row.1,?_⟩,h.len,λi b l hi hl=>⟨aK hL (h.each i b l hi hl).1,(h.each i b l hi hl).2⟩,h.nd,h.nv,h.rv,h.rb,h.i64,h.few⟩;rcases h.row.2 with h2|⟨g,cap,cur,e,h3,r⟩
 ·exact .inl h2
 ·exact .inr ⟨g,cap,cur,e,aK hL h3,r⟩
def EndIs (w:World)(en:En)(v:Value):Prop:=
 ∃Av cv Aa ca,v= .agg #[.int .u8 en.kind,.int .u8 en.wrong,.int .i64 en.at_,.int .i64 en.node,.int .i64 en.edge,.int .i64 en.left,.slice Av en.vs.length cv,.slice Aa en.ls.length ca]/\StSl w w.heap.size en.vs en.ls Av cv Aa ca
theorem zpw:(Tryz.prog.info? 34).map (·.size)=some 8:=by kernel_rfl
def eq6 (a0 b0 a1 b1 a2 b2 a3 b3 a4 b4 a5 b5:Int)(q q':Bool):Bool:=a0==b0&&(a1==b1&&(a2==b2&&(a3==b3&&(a4==b4&&(a5==b5&&(q&&q'))))))
set_option maxRecDepth 100000 in
set_option maxHeartbeats 3200000 in
theorem znD (a0 b0 a1 b1 a2 b2 a3 b3 a4 b4 a5 b5:Int)(vs xP:List Int)(ls xp:List (List Int))(Av xQ Aa xR:Option Addr)(cv xS ca xT B:Nat)(w:World)(hB:B<=w.heap.size)(hx:StSl w B vs ls Av cv Aa ca)(hy:StSl w B xP xp xQ xS xR xT):
  Calls Tryz.prog 15 #[.agg #[.int .u8 a0,.int .u8 a1,.int .i64 a2,.int .i64 a3,.int .i64 a4,.int .i64 a5,.slice Av vs.length cv,.slice Aa ls.length ca],.agg #[.int .u8 b0,.int .u8 b1,.int .i64 b2,.int .i64 b3,.int .i64 b4,.int .i64 b5,.slice xQ xP.length xS,.slice xR xp.length xT]] w (zcG (eq6 a0 b0 a1 b1 a2 b2 a3 b3 a4 b4 a5 b5 (vs==xP) (ls==xp)) w):=by
 obtain⟨n1,FW⟩:=aF ls.length;obtain⟨n2,JT⟩:=aF xp.length;obtain⟨v1,F5⟩:=aF vs.length;obtain⟨v2,Kv⟩:=aF xP.length;obtain⟨q,hq⟩:=aF ((vs==xP));obtain⟨q',g9⟩:=aF ((ls==xp));have hc:=λ(W:World)(hf:Fr NoT w W)=>zla vs xP Av xQ cv xS W B (hx.vars.keep (Same.of_fr hf hB λ_ h=>h.elim)) (hy.vars.keep (Same.of_fr hf hB λ_ h=>h.elim));have hd:=λ(W:World)(hf:Fr NoT w W)=>zo5 ls xp Aa xR ca xT W B (aK hB hf.size) (hx.arrs.keep (Same.of_fr hf hB λ_ h=>h.elim)) (hy.arrs.keep (Same.of_fr hf hB λ_ h=>h.elim));have kk:=zlX w #[.int .u8 a0,.int .u8 a1,.int .i64 a2,.int .i64 a3,.int .i64 a4,.int .i64 a5,.slice Av vs.length cv,.slice Aa ls.length ca] #[.int .u8 b0,.int .u8 b1,.int .i64 b2,.int .i64 b3,.int .i64 b4,.int .i64 b5,.slice xQ xP.length xS,.slice xR xp.length xT] 34 34;rw[<-F5,<-Kv,<-hq]at hc;rw[<-FW,<-JT,<-g9]at hd;rw[<-FW,<-JT,<-F5,<-Kv]at kk;rw[<-FW,<-JT,<-F5,<-Kv,<-hq,<-g9];have HC:=aA hc;have HD:=aA hd;have S3:=aA kk;obtain⟨w1,Hc⟩:=aF ((w.alloc (.cells #[.int .u8 a0,.int .u8 a1,.int .i64 a2,.int .i64 a3,.int .i64 a4,.int .i64 a5,.slice Av v1 cv,.slice Aa n1 ca] 34)).alloc (.cells #[.int .u8 b0,.int .u8 b1,.int .i64 b2,.int .i64 b3,.int .i64 b4,.int .i64 b5,.slice xQ v2 xS,.slice xR n2 xT] 34));have Hd:Fr NoT w w1:=by rw[Hc];exact(aH.alloc _).alloc _
 have Ge:=aA Hc;have Hl:=aA Hd;clear hx hy FW JT F5 Kv hq g9 Hc Hd hc hd kk;by_cases h0:a0=b0
 case neg=>
  have g0:(a0==b0)=false:=by simpa using h0
  have HE:=aA (show eq6 a0 b0 a1 b1 a2 b2 a3 b3 a4 b4 a5 b5 q q'=false from by simp[eq6,g0]);go_enter Tryz.func15,Tryz.ntmps15;go_wp2_with fail;rw[<-Ge.out];go_ret;exact⟨by rw[HE.out];rfl,Hl.plain⟩
 subst h0;by_cases h1:a1=b1
 case neg=>
  have g1:(a1==b1)=false:=by simpa using h1
  have HE:=aA (show eq6 a0 a0 a1 b1 a2 b2 a3 b3 a4 b4 a5 b5 q q'=false from by simp[eq6,g1]);go_enter Tryz.func15,Tryz.ntmps15;go_wp2_with fail;rw[<-Ge.out];go_ret;exact⟨by rw[HE.out];rfl,Hl.plain⟩
 subst h1;by_cases h2:a2=b2
 case neg=>
  have g2:(a2==b2)=false:=by simpa using h2
  have HE:=aA (show eq6 a0 a0 a1 a1 a2 b2 a3 b3 a4 b4 a5 b5 q q'=false from by simp[eq6,g2]);go_enter Tryz.func15,Tryz.ntmps15;go_wp2_with fail;rw[<-Ge.out];go_ret;exact⟨by rw[HE.out];rfl,Hl.plain⟩
 subst h2;by_cases h3:a3=b3
 case neg=>
  have g3:(a3==b3)=false:=by simpa using h3
  have HE:=aA (show eq6 a0 a0 a1 a1 a2 a2 a3 b3 a4 b4 a5 b5 q q'=false from by simp[eq6,g3]);go_enter Tryz.func15,Tryz.ntmps15;go_wp2_with fail;rw[<-Ge.out];go_ret;exact⟨by rw[HE.out];rfl,Hl.plain⟩
 subst h3;by_cases h4:a4=b4
 case neg=>
  have g4:(a4==b4)=false:=by simpa using h4
  have HE:=aA (show eq6 a0 a0 a1 a1 a2 a2 a3 a3 a4 b4 a5 b5 q q'=false from by simp[eq6,g4]);go_enter Tryz.func15,Tryz.ntmps15;go_wp2_with fail;rw[<-Ge.out];go_ret;exact⟨by rw[HE.out];rfl,Hl.plain⟩
 subst h4;by_cases h5:a5=b5
 case neg=>
  have g5:(a5==b5)=false:=by simpa using h5
  have HE:=aA (show eq6 a0 a0 a1 a1 a2 a2 a3 a3 a4 a4 a5 b5 q q'=false from by simp[eq6,g5]);go_enter Tryz.func15,Tryz.ntmps15;go_wp2_with fail;rw[<-Ge.out];go_ret;exact⟨by rw[HE.out];rfl,Hl.plain⟩
 subst h5;have HE:=aA (show eq6 a0 a0 a1 a1 a2 a2 a3 a3 a4 a4 a5 a5 q q'=(q&&q')from by simp[eq6]);go_enter Tryz.func15,Tryz.ntmps15;go_wp2_with fail;rw[<-Ge.out];have a7:=S3.1.cell 7;have b7:=S3.2.cell 7;have al:=S3.1.lt;have bl:=S3.2.lt;rw[<-Ge.out]at a7 b7 al bl;simp only[aD]at a7 b7;go_at_call 30;refine(HC w1 Hl.out).mono ?_;rintro e w2 ⟨rfl,G2⟩;have He:Fr NoT w1 w2:=Fr.below G2;have Eh:=(He.cell (p:=⟨w.heap.size,7,none⟩) al id).trans a7;have Ei:=(He.cell (p:=⟨w.heap.size+1,7,none⟩) bl id).trans b7;have Ej:=He.low al;have Ek:=He.low bl;have Hu:=aA (Hl.trans He);clear G2 He;cases q with
 |false=>
  go_wp2_with fail;go_ret;exact⟨by rw[HE.out];rfl,Hu.plain⟩
 |true=>
  go_wp2_with fail;go_at_call 31;refine(HD w2 Hu.out).mono ?_;rintro e w3 ⟨rfl,FL⟩;go_wp2_with fail;go_ret;exact⟨by rw[HE.out];rfl,(Hu.trans (Fr.below FL)).plain⟩
def enEq (a b:En):Bool:=eq6 a.kind b.kind a.wrong b.wrong a.at_ b.at_ a.node b.node a.edge b.edge a.left b.left (a.vs==b.vs) (a.ls==b.ls)
theorem zhd (a:En):enEq a a=true:=by simp[enEq,eq6]
theorem EndIs.keep {w w':World}{en:En}{v:Value}(h:EndIs w en v)(hf:Fr NoT w w'):EndIs w' en v:=by
 obtain⟨Av,cv,Aa,ca,e,hs⟩:=h;have h1:=hs.keep (Same.of_fr hf (aL _) λ_ h=>h.elim);exact⟨Av,cv,Aa,ca,e,⟨h1.vars.up hf.size,⟨h1.arrs.1,h1.arrs.2.1,λhp=>by
  obtain⟨b,o,e',hb,hh⟩:=h1.arrs.2.2 hp;exact⟨b,o,e',aM hb hf.size,λi l hi=>by obtain⟨A,c,hc,Gq⟩:=hh i l hi;exact⟨A,c,hc,Gq.up hf.size⟩⟩⟩⟩⟩
theorem zhe {w:World}{a b:En}{va vb:Value}(h:EndIs w a va)(h':EndIs w b vb):Calls Tryz.prog 15 #[va,vb] w (zcG (enEq a b) w):=by
 obtain⟨Av,cv,Aa,ca,rfl,hs⟩:=h;obtain⟨xQ,xS,xR,xT,rfl,S9⟩:=h';exact znD _ _ _ _ _ _ _ _ _ _ _ _ a.vs b.vs a.ls b.ls Av xQ Aa xR cv xS ca xT w.heap.size w (aL _) hs S9
open Go.RowKit Go.Shelf Go.Maps
theorem zlY {t:Tre}{n:Nat}{steps:Int}(h0:bigE t n steps=0):OkT t:=by
 unfold bigE at h0;split at h0
 ·rename_i h;exact zf2 h
 ·exact zf2 h0
theorem zfA {t:Tre}{n:Nat}{steps:Int}(h0:bigE t n steps=0):n<=4096/\0<=steps/\steps<=65536:=by
 unfold bigE at h0;split at h0
 ·split at h0
  ·exact absurd h0 (by decide)
  ·split at h0
   ·exact absurd h0 (by decide)
   ·omega
 ·rename_i h;exact absurd h0 h
theorem zol {t:Tre}(hz:SzT t)(n:Nat)(steps:Int)(s:Bs):∃h u,bigE t n steps=0->RunT (bnOf t) (.all [] t.main) s h u:=by
 by_cases h0:bigE t n steps=0
 ·obtain⟨h1,h2⟩:=zlV (zlY h0) hz;obtain⟨h,u,r⟩:=zoa h1 (s.left+1) s (by omega) [] _ h2;exact⟨h,u,λ_=>r⟩
 ·exact⟨none,s,λe=>absurd e h0⟩
def enB (h:Option Ho)(u:Bs):En:=⟨(hoD h).kind,(hoD h).wrong,(hoD h).at_,0,0,u.left,u.vs,u.ls⟩
theorem zlZ {T U:Nat->Prop}{a b c:World}(h:Fr T a b)(k:Fr U b c)(ht:∀i,i < a.heap.size->U i->T i):Fr T a c:=
 ⟨k.os.trans h.os,k.tape.trans h.tape,k.output.trans h.output,aK h.size k.size,λi hi hn=>(k.block i (aM hi h.size) λhu=>hn (ht i hi hu)).trans (h.block i hi hn)⟩
theorem zc6 {w w':World}{L:Nat}{vs:List Int}{ls:List (List Int)}{bv:Nat}{A:Option Addr}{c:Nat}{bs:List Nat}{U:Nat->Prop}(h:Sto w L vs ls bv A c bs)(hf:Fr U w w')(hU:∀b,U b->b < L\/w.heap.size<=b):Sto w' L vs ls bv A c bs:=by
 refine h.fr hf (λe=>?_) (λb hb e=>?_) λb hb e=>?_
 ·have:=hU _ e;have:=h.vl;have:=h.v.lt;omega
 ·have:=hU _ e;obtain⟨j,hj⟩:=List.getElem?_of_mem hb;have RE:j < ls.length:=by rw[<-h.len];exact(List.getElem?_eq_some_iff.1 hj).1
  have:=(h.each j b _ hj (List.getElem?_eq_getElem RE)).2.lt;have:=(h.each j b _ hj (List.getElem?_eq_getElem RE)).1;omega
 ·have:=hU _ e;have:=h.row.lt b hb;omega
def BigU (E:Int)(h:Option Ho)(u:Bs)(W:World)(e:Ending)(w':World):Prop:=
 Fr NoT W w'/\∃k0 k1 k2 k5 A6 n6 c6 A7 n7 c7,e= .returned (.tuple #[.agg #[.int .u8 k0,.int .u8 k1,.int .i64 k2,.int .i64 0,.int .i64 0,.int .i64 k5,.slice A6 n6 c6,.slice A7 n7 c7],.int .i64 E])/\
  (E=0->k0=(hoD h).kind /\k1=(hoD h).wrong /\k2=(hoD h).at_ /\k5=u.left/\n6=u.vs.length/\n7=u.ls.length/\c6=u.vs.length/\∃V bs,A6=some ⟨V,0,none⟩/\Sto w' W.heap.size u.vs u.ls V A7 c7 bs)/\(E≠0->k5=0)
theorem zpx (t:Tre)(script:List Int)(steps:Int)(h:Option Ho)(u:Bs)(W:World)(S:Nat->Prop)(Z:Prop)(Av Aa Ap Am As:Option Addr)(cv ca cp cm cs:Nat)(he:SpEnv W)(hS:∀b,S b->b < W.heap.size)(Hx:SzT t)(hx:TrR W S Z t Av Aa Ap Am cv ca cp cm)(KS:IsSl W W.heap.size script As cs)(Kg:in64 steps)
  (GL:bigE t script.length steps=0->RunT (bnOf t) (.all [] t.main) (bs0 t script steps) h u):
  Calls Tryz.prog 9 #[trV t Av Aa Ap Am cv ca cp cm,.slice As script.length cs,.int .i64 steps] W (BigU (bigE t script.length steps) h u W):=by
 refine(zok t script steps h u W S Z Av Aa Ap Am As cv ca cp cm cs he hS Hx hx KS Kg GL).mono ?_;rintro e w' ⟨hf,h1⟩;refine⟨hf,?_⟩;by_cases h0:bigE t script.length steps=0
 ·rw[if_pos h0]at h1;obtain⟨V,A,c,bs,rfl,Gu⟩:=h1;exact⟨_,_,_,_,_,_,_,_,_,_,by rw[h0];rfl,λ_=>⟨rfl,rfl,rfl,rfl,rfl,rfl,rfl,V,bs,rfl,Gu⟩,λh=>absurd h0 h⟩
 ·rw[if_neg h0]at h1;exact⟨_,_,_,_,_,_,_,_,_,_,h1,λh=>absurd h h0,λ_=>rfl⟩
theorem zhS {w:World}{L:Nat}{h:Option Ho}{u:Bs}{k0 k1 k2 k5:Int}{n6 n7 c6 c7 V:Nat}{A7:Option Addr}{bs:List Nat}(h0:k0=(hoD h).kind)(h1:k1=(hoD h).wrong)(h2:k2=(hoD h).at_)(h5:k5=u.left)(h6:n6=u.vs.length)(h7:n7=u.ls.length)(h8:c6=u.vs.length)(Gu:Sto w L u.vs u.ls V A7 c7 bs):
  EndIs w (enB h u) (.agg #[.int .u8 k0,.int .u8 k1,.int .i64 k2,.int .i64 0,.int .i64 0,.int .i64 k5,.slice (some ⟨V,0,none⟩) n6 c6,.slice A7 n7 c7]):=by
 subst h0 h1 h2 h5 h6 h7 h8;exact⟨_,_,_,_,rfl,Gu.stSl⟩
