/- parse: keywords: a map from words to kinds and methods. -/
import Derived.Test.YtfomomaomggpbaaGreatDoorJnPf
set_option linter.all false
set_option maxHeartbeats 12800000
set_option maxRecDepth 100000
namespace Go.Proofs.YtfomomaomggpbaaGreatDoor
open Go.RowKit Go.Shelf Go.Maps
def begV (k:Int)(g:Nat):Value:= .agg #[.int .u8 k,.func (.func g) #[] #[]]
def KwM (w:World)(b n:Nat)(tab:List (List UInt8×Value)):Prop:=
 ∃D,w.ownsMap Tryz.prog 9 zdw b n D/\∀t:List UInt8,Maps.has D (.string t)=(tab.lookup t).isSome /\(∀v,tab.lookup t=some v->∀z,D.atKey (.string t) z= .held v)/\(tab.lookup t=none->∀z,D.atKey (.string t) z=z)
theorem KwM.made (w:World):KwM (w.alloc (.map #[] 0)) w.heap.size 0 []:=⟨_,World.ownsMap_made _ _ _ _,λt=>⟨rfl,λv h=>by simp at h,λ_ z=>rfl⟩⟩
theorem KwM.put {w:World}{b n:Nat}{tab:List (List UInt8×Value)}(h:KwM w b n tab){t:List UInt8}(ht:t.length<=maxLen)(v:Value)(hn:n < maxLen):
  ∃w',(Instr.mapUpdate 326 (.map (some b)) (.string ⟨t.toArray⟩) v).run Tryz.prog w= .ok () w'/\KwM w' b (n+1) ((t,v)::tab)/\w.grownBy w' (some b):=by
 obtain⟨D,Hb,hD⟩:=h;obtain⟨w',GH,KY,hg⟩:=Hb.update strKey Tryz.underlying326 hn (keyS ht) (val:=v) (d:= .held v) (ps:= []) rfl;refine⟨w',GH,⟨_,KY,λx=>?_⟩,hg⟩;have kx:WideAt.IsKeyLit (.string t):=strKey.key (keyS ht);by_cases e:x=t
 ·subst e;refine⟨by rw[has_put_same Hb.isMap kx];simp,λu hu z=>?_,λhu=>by simp at hu⟩;rw[atKey_put_same Hb.isMap kx];simp at hu;rw[hu]
 ·have e1:(x==t)=false:=by simpa using e
  have e2:(Lit.string x)≠ .string t:=λh=>e (by simpa using h);refine⟨by rw[has_put_other e2,(hD x).1];simp[List.lookup,e1],λu hu z=>?_,λhu z=>?_⟩
  ·rw[atKey_put_other e2];exact(hD x).2.1 u (by simpa[List.lookup,e1]using hu) z
  ·rw[atKey_put_other e2];exact(hD x).2.2 (by simpa[List.lookup,e1]using hu) z
theorem KwM.kept {w w':World}{b n:Nat}{tab:List (List UInt8×Value)}(h:KwM w b n tab){row:Option Nat}(hg:w.grownBy w' row)(Gc:some b≠row):KwM w' b n tab:=by
 obtain⟨D,Hb,hD⟩:=h;exact⟨D,Hb.kept hg Gc,hD⟩
theorem zkl (w:World):(zeroValue 324).run Tryz.prog w= .ok (.agg #[.int .u8 0,.nilFunc]) w:=by kernel_rfl
def zkm:Value:= .agg #[.int .u8 0,.nilFunc]
theorem KwM.look {w:World}{b n:Nat}{tab:List (List UInt8×Value)}(h:KwM w b n tab){t:List UInt8}(ht:t.length<=maxLen):
  (Instr.lookup 326 (.map (some b)) (.string ⟨t.toArray⟩) true).run Tryz.prog w= .ok (.tuple #[(tab.lookup t).getD zkm,.bool (tab.lookup t).isSome]) w:=by
 obtain⟨D,Hb,hD⟩:=h;obtain⟨v,ps,GH,hv⟩:=Hb.look_ok strKey Tryz.underlying326 (zkl w) (zd:= .held _) (zp:= []) rfl (keyS ht);rw[(hD t).1]at GH;rw[GH];cases hl:tab.lookup t with
 |none=>
  rw[(hD t).2.2 hl]at hv;simp only[zdw,Option.some.injEq,Prod.mk.injEq,DataW.held.injEq]at hv;rw[hv.1];rfl
 |some u=>
  rw[(hD t).2.1 u hl]at hv;simp only[zdw,Option.some.injEq,Prod.mk.injEq,DataW.held.injEq]at hv;rw[hv.1];rfl
def kwTab:List (List UInt8×Value):= [([99,97,108,108],begV 9 (kwF 9)),([119,104,105,108,101],begV 8 (kwF 8)),([105,102],begV 7 (kwF 7)),([97,115,115,101,114,116],begV 6 (kwF 6)),([97,115,115,117,109,101],begV 5 (kwF 5)),([105,110,112,117,116],begV 4 (kwF 4)),([115,107,105,112],begV 1 (kwF 1))]
theorem zkn (t:List UInt8):kwTab.lookup t=if keyK t=0 then none else some (begV (keyK t) (kwF (keyK t))):=by
 unfold keyK kwTab;by_cases h1:t= [115,107,105,112]
 ·subst h1;rfl
 by_cases h2:t= [105,110,112,117,116]
 ·subst h2;rfl
 by_cases h3:t= [97,115,115,117,109,101]
 ·subst h3;rfl
 by_cases h4:t= [97,115,115,101,114,116]
 ·subst h4;rfl
 by_cases h5:t= [105,102]
 ·subst h5;rfl
 by_cases h6:t= [119,104,105,108,101]
 ·subst h6;rfl
 by_cases h7:t= [99,97,108,108]
 ·subst h7;rfl
 have e1:(t== [115,107,105,112])=false:=by simpa using h1
 have e2:(t== [105,110,112,117,116])=false:=by simpa using h2
 have e3:(t== [97,115,115,117,109,101])=false:=by simpa using h3
 have e4:(t== [97,115,115,101,114,116])=false:=by simpa using h4
 have e5:(t== [105,102])=false:=by simpa using h5
 have e6:(t== [119,104,105,108,101])=false:=by simpa using h6
 have e7:(t== [99,97,108,108])=false:=by simpa using h7
 simp only[List.lookup,e1,e2,e3,e4,e5,e6,e7,if_neg h1,if_neg h2,if_neg h3,if_neg h4,if_neg h5,if_neg h6,if_neg h7];rfl
theorem zbw (w:World):Calls Tryz.prog 245 #[] w λe w'=>∃b,e= .returned (.map (some b))/\w.heap.size<=b/\KwM w' b 7 kwTab/\Fr NoT w w':=by
 have LS:= @run_makeMap Tryz.prog;obtain⟨w1,u1,k1,g1⟩:=(KwM.made w).put (t:= [115,107,105,112]) (by decide) (begV 1 (kwF 1)) (by decide);obtain⟨w2,u2,k2,g2⟩:=k1.put (t:= [105,110,112,117,116]) (by decide) (begV 4 (kwF 4)) (by decide);obtain⟨w3,u3,k3,g3⟩:=k2.put (t:= [97,115,115,117,109,101]) (by decide) (begV 5 (kwF 5)) (by decide);obtain⟨w4,u4,k4,g4⟩:=k3.put (t:= [97,115,115,101,114,116]) (by decide) (begV 6 (kwF 6)) (by decide);obtain⟨w5,u5,k5,g5⟩:=k4.put (t:= [105,102]) (by decide) (begV 7 (kwF 7)) (by decide);obtain⟨w6,u6,k6,g6⟩:=k5.put (t:= [119,104,105,108,101]) (by decide) (begV 8 (kwF 8)) (by decide);obtain⟨w7,u7,k7,g7⟩:=k6.put (t:= [99,97,108,108]) (by decide) (begV 9 (kwF 9)) (by decide);have hf:Fr NoT w w7:=by
  have h0:Fr (λb=>b=w.heap.size) w w7:=(((((((Fr.refl _ w).alloc (.map #[] 0)).trans (Fr.grown g1 λg e _=>(Option.some.inj e).symm)).trans (Fr.grown g2 λg e _=>(Option.some.inj e).symm)).trans (Fr.grown g3 λg e _=>(Option.some.inj e).symm)).trans (Fr.grown g4 λg e _=>(Option.some.inj e).symm)).trans (Fr.grown g5 λg e _=>(Option.some.inj e).symm)).trans (Fr.grown g6 λg e _=>(Option.some.inj e).symm) |>.trans (Fr.grown g7 λg e _=>(Option.some.inj e).symm)
  exact h0.mono λi hi e=>absurd hi (by have e:i=w.heap.size:=e;omega)
 have HK:=hdq k7;have HF:=hdq hf;simp only[begV,show kwF 1=277 from by rfl,show kwF 4=278 from by rfl,show kwF 5=279 from by rfl,show kwF 6=279 from by rfl,show kwF 7=280 from by rfl,show kwF 8=281 from by rfl,show kwF 9=282 from by rfl]at u1 u2 u3 u4 u5 u6 u7;clear k1 k2 k3 k4 k5 k6 k7 g1 g2 g3 g4 g5 g6 g7 hf;go_enter Tryz.func245,Tryz.ntmps245;go_wp2_with fail;go_ret;exact⟨w.heap.size,rfl,lrq _,HK.out,HF.out⟩
open Go.RowKit Go.Shelf
def ziH (w:World)(L:Nat)(v:Value)(x:St):Prop:=∃p,v= .agg (stC x p).toArray /\StS w (New L w) x p
structure StmR (C:Pcx)(w:World)(rb sb gb:Nat)(l:List Tk)(d:Nat)(x:St)(u0 u1:Value)(W:World):Prop where
 pa:PaAt C W l d
 st:StAt W sb (w.heap.size+2) x
 raw:Bk W sb 51 #[.int .u8 0,.string ⟨#[]⟩,.slice none 0 0,.slice none 0 0,.slice none 0 0,.slice none 0 0,.int .i64 x.at_]
 beg:Bk W gb 324 #[u0,u1]
 res:Bk W rb 51 #[.int .u8 0,.string ⟨#[]⟩,.slice none 0 0,.slice none 0 0,.slice none 0 0,.slice none 0 0,.int .i64 0]
 fr:Fr NoT w W
theorem ze1 (w w1:World)(a:Int)(hw:w1=(w.alloc (.cells zeroSt 51)).alloc (.cells #[.int .u8 0,.string ⟨#[]⟩,.slice none 0 0,.slice none 0 0,.slice none 0 0,.slice none 0 0,.int .i64 a] 51)):
  Bk w1 w.heap.size 51 zeroSt/\Bk w1 (w.heap.size+1) 51 #[.int .u8 0,.string ⟨#[]⟩,.slice none 0 0,.slice none 0 0,.slice none 0 0,.slice none 0 0,.int .i64 a]/\Fr NoT w w1:=by
 subst hw;exact⟨(Bk.new _ _ _).alloc _,Bk.new_at _ _ _ (by simp),((Fr.refl _ _).alloc _).alloc _⟩
theorem zhE {w W:World}{b:Nat}{l:List Tk}{k:Int}{tx:ByteArray}(Kz:k=keyK (hdT l).text)(LY:tx=txt (hdT l))(NW:(hdT l).text.length <=4096)(h:KwM W b 7 kwTab):
  (Instr.lookup 326 (.map (some b)) (.string tx) true).run Tryz.prog W= .ok (.tuple #[(if k=0 then zkm else begV k (kwF k)),.bool (!(k==0))]) W:=by
 have h1:=h.look (t:=(hdT l).text) (by unfold maxLen;omega);rw[zkn,<-Kz]at h1;rw[LY];unfold txt;rw[h1];by_cases h0:k=0
 ·subst h0;rfl
 ·have e:(k==0)=false:=by simpa using h0
  rw[if_neg h0,if_neg h0,e];rfl
theorem zmY {C:Pcx}{w w1 wk w9:World}{l:List Tk}{d:Nat}{a:Int}{u0 u1:Value}(hL:C.P < w.heap.size/\C.TB < w.heap.size/\C.W0.heap.size<=w.heap.size)(ha:in64 a)(h:PaAt C w l d)
  (Gw:Bk w1 w.heap.size 51 zeroSt) (GP:Bk w1 (w.heap.size+1) 51 #[.int .u8 0,.string ⟨#[]⟩,.slice none 0 0,.slice none 0 0,.slice none 0 0,.slice none 0 0,.int .i64 a]) (hz:w1.heap.size=w.heap.size+2) (Hg:Fr NoT w w1) (Jz:Fr NoT w1 wk)
  (h9:w9=wk.alloc (.cells #[u0,u1] 324)):
  StmR C w w.heap.size (w.heap.size+1) wk.heap.size l d ⟨0,noB,.nil,.nil,.nil,.nil,a⟩ u0 u1 w9:=by
 have kP:=Jz.size;have FX:Fr NoT wk w9:=by rw[h9];exact(Fr.refl _ _).alloc _
 have G6:Fr NoT w w9:=(Hg.trans Jz).trans FX;refine⟨h.fr G6 id id λ_ _=>id,StAt.new (by unfold in8;omega) ha ((GP.fr0 Jz).fr0 FX),(GP.fr0 Jz).fr0 FX,?_,(Gw.fr0 Jz).fr0 FX,G6⟩;rw[h9];exact Bk.new _ _ _
theorem zmZ {C:Pcx}{w w1 wa wk w9:World}{l:List Tk}{d:Nat}{a:Int}{u0 u1:Value}(hL:C.P < w.heap.size/\C.TB < w.heap.size/\C.W0.heap.size<=w.heap.size)(ha:in64 a)(h:PaAt C w l d)
  (Gw:Bk w1 w.heap.size 51 zeroSt) (GP:Bk w1 (w.heap.size+1) 51 #[.int .u8 0,.string ⟨#[]⟩,.slice none 0 0,.slice none 0 0,.slice none 0 0,.slice none 0 0,.int .i64 a]) (hz:w1.heap.size=w.heap.size+2) (Hg:Fr NoT w w1) {z0 z1:Value} (FX:Fr NoT w1 wa) (N9:Bk wa w1.heap.size 324 #[z0,z1]) (Jz:Fr NoT wa wk)
  (h9:w9=(wk.setCell ⟨w1.heap.size,0,none⟩ u0).setCell ⟨w1.heap.size,1,none⟩ u1):
  StmR C w w.heap.size (w.heap.size+1) w1.heap.size l d ⟨0,noB,.nil,.nil,.nil,.nil,a⟩ u0 u1 w9:=by
 have kP:=Jz.size;have JR:Fr (λb=>b=w1.heap.size) wk w9:=by rw[h9];exact Fr.own (Fr.own (Fr.refl _ _) _ _) _ _
 have G6:Fr NoT w w9:=by
  rw[h9];exact Fr.high (Fr.high ((Hg.trans FX).trans Jz) (by omega) _ _) (by omega) _ _
 have VB:=((GP.fr0 FX).fr0 Jz).fr JR (λe=>by have e:w.heap.size+1=w1.heap.size:=e;omega);refine⟨h.fr G6 id id λ_ _=>id,StAt.new (by unfold in8;omega) ha VB,VB,?_,(((Gw.fr0 FX).fr0 Jz).fr JR λe=>?_),G6⟩
 ·have:=((N9.fr0 Jz).set_ 0 u0).set_ 1 u1;rw[h9];simpa using this
 ·have e:w.heap.size=w1.heap.size:=e;omega
theorem zfx {C:Pcx}{w yn yr:World}{x:St}{p:Loc}{r:List Tk}{d:Nat}(hL:C.P < w.heap.size/\C.TB < w.heap.size/\C.W0.heap.size<=w.heap.size)(hs:StS yn (λb=>w.heap.size+2<=b/\b < yn.heap.size/\b≠w.heap.size+1) x p)(hp:PaAt C yn r d)(hf:Fr (PT C (w.heap.size+1)) w yn)
  (kQ:yr=((((((yn.setCell ⟨w.heap.size,0,none⟩ (.int .u8 x.k)).setCell ⟨w.heap.size,1,none⟩ (.string x.nm)).setCell ⟨w.heap.size,2,none⟩ (.slice p.A x.args.len p.c)).setCell ⟨w.heap.size,3,none⟩ (.slice p.B x.cond.len p.q)).setCell ⟨w.heap.size,4,none⟩ (.slice p.D x.body.len p.e)).setCell ⟨w.heap.size,5,none⟩ (.slice p.E x.els.len p.f)).setCell ⟨w.heap.size,6,none⟩ (.int .i64 x.at_)):
  EndV C d ziH (.ok x r) w (.returned (.agg #[.int .u8 x.k,.string x.nm,.slice p.A x.args.len p.c,.slice p.B x.cond.len p.q,.slice p.D x.body.len p.e,.slice p.E x.els.len p.f,.int .i64 x.at_])) yr:=by
 have GU:Fr (λb=>b=w.heap.size) yn yr:=by rw[kQ];exact Fr.own (Fr.own (Fr.own (Fr.own (Fr.own (Fr.own (Fr.own (Fr.refl _ _) _ _) _ _) _ _) _ _) _ _) _ _) _ _
 have Ht:=hf.size;refine⟨_,rfl,⟨p,rfl,hs.imp (GU.same λb hb=>⟨hb.2.1,λe=>?_⟩) λb hb=>⟨by have:=hb.1;omega,by have:=hb.2.1;have:=GU.size;omega⟩⟩,hp.fr GU (λe=>?_) (λe=>?_) (λi hi e=>?_),?_⟩
 ·have e:b=w.heap.size:=e;have:=hb.1;omega
 ·have e:C.P=w.heap.size:=e;omega
 ·have e:C.TB=w.heap.size:=e;omega
 ·have e:i=w.heap.size:=e;omega
 ·refine((hf.mono (T':=λb=>b=C.P\/w.heap.size<=b) λi _ h=>?_).trans (GU.mono λi _ h=>?_)).mono λi hi e=>?_
  ·rcases h with h|h
   ·exact .inl h
   ·exact .inr (by omega)
  ·have h:i=w.heap.size:=h;exact .inr (by omega)
  ·rcases e with e|e
   ·exact e
   ·omega
theorem za2 {C:Pcx}{w yn:World}{d:Nat}{c a:Int}(hf:Fr (PT C (w.heap.size+1)) w yn):EndV C d ziH (.err c a) w (zae c a) yn:=
 ⟨rfl,hf.mono λi hi e=>by
  rcases e with e|e
  ·exact e
  ·omega⟩
theorem zko (C:Pcx)(n:Nat)(Gm:BlkC C n)(l:List Tk)(d:Nat)(w:World)(k:Int)(Kz:k=keyK (hdT l).text)(Gz:k≠0)(Gd:d+n=24)(hk:C.Ok)(h:PaAt C w l d):
  Calls Tryz.prog 206 #[.pointer (some ⟨C.P,0,none⟩)] w (EndV C d ziH (zaz (zag n) n l) w):=by
 obtain⟨R,hR⟩:=nmq (zaz (zag n) n l);rw[<-hR];have HR:=hdq hR;have hL:=h.lts;obtain⟨j,cap,m,GK,Jq,hl,Ln,FS,hb,p0,p1,f0,f1,t0,t1,t2,ltP,ltT⟩:=h.cells;have KG:m<=9223372036854775807:=by omega
 have JP:(0:Int) < (m:Int):=by omega
 have NW:(hdT l).text.length <=4096:=by
  have hd:=zaI hl h.ne;exact hk.len _ (List.mem_of_getElem? hd.1)
 obtain⟨a,ha⟩:∃a:Int,a=((hdT l).at_ :Int):=⟨_,rfl⟩;obtain⟨tx,LY⟩:=nmq (txt (hdT l));have KB:in64 a:=by rw[ha];exact zbc hk h
 rw[<-ha]at t2;rw[<-LY]at t1;have HA:=hdq ha;obtain⟨w1,Hc⟩:=nmq ((w.alloc (.cells zeroSt 51)).alloc (.cells #[.int .u8 0,.string ⟨#[]⟩,.slice none 0 0,.slice none 0 0,.slice none 0 0,.slice none 0 0,.int .i64 a] 51));obtain⟨Gw,GP,Hg⟩:=ze1 w w1 a Hc;have hz:w1.heap.size=w.heap.size+2:=by rw[Hc];simp
 have Sq:(hdT l).live :=zbb (by rw[<-Kz];exact Gz);have kR:=hdq Sq;have e1:(!(k==0))=true:=by simpa using Gz
 have JK:∀(W:World)(b:Nat),KwM W b 7 kwTab->(Instr.lookup 326 (.map (some b)) (.string tx) true).run Tryz.prog W= .ok (.tuple #[.agg #[.int .u8 k,.func (.func (kwF k)) #[] #[]],.bool true]) W:=λW b hW=>by
  have:=zhE (w:=w) Kz LY NW hW;rw[if_neg Gz,e1]at this;exact this
 have yK:=(Hg.cell (p:=⟨C.P,0,none⟩) ltP id).trans p0;have t11:=(Hg.cell (p:=⟨C.TB,j*3+1,none⟩) ltT id).trans t1;have Qi:C.P < w1.heap.size:=by omega
 have Qj:C.TB < w1.heap.size:=by omega
 have Ts:=hdq JK;have Sp:=hdq Kz;have MX:=hdq Gz;have VC:=hdq Gd;have YD:=hdq (λ(wk w9:World)(u0 u1:Value)(Jz:Fr NoT w1 wk) h9=>zmY (C:=C) (u0:=u0) (u1:=u1) (w9:=w9) hL KB h Gw GP hz Hg Jz h9);have Mi:=hdq (λ(wa wk w9:World)(z0 z1 u0 u1:Value)(FX:Fr NoT w1 wa) N9 (Jz:Fr NoT wa wk) h9=>zmZ (C:=C) (u0:=u0) (u1:=u1) (z0:=z0) (z1:=z1) (w9:=w9) hL KB h Gw GP hz Hg FX N9 Jz h9);have Gg:=hdq Hc;have HZ:=hdq hz;have J2:=hdq Gm;have HK:=hdq hk;have HL:=hdq hL;have Hs:=hdq Hg;clear hR hb GK hl ha LY Kz Gz e1 JK Hc Gw GP hz Hg h Gm hk hL Sq NW KB;go_enter Tryz.func206,Tryz.ntmps206;go_wp2_with fail;rw[show(w.alloc (.cells #[.int .u8 0,.string ⟨#[]⟩,.slice none 0 0,.slice none 0 0,.slice none 0 0,.slice none 0 0,.int .i64 0] 51)).alloc (.cells #[.int .u8 0,.string ⟨#[]⟩,.slice none 0 0,.slice none 0 0,.slice none 0 0,.slice none 0 0,.int .i64 a] 51)=w1 from Gg.symm];clear p0 t1 t2 p1 f0 f1 t0
 go_region_held2 (λW'=>W'.cell? ⟨C.P,0,none⟩=some (.slice (some ⟨C.TB,j*3,none⟩) m cap)/\W'.cell? ⟨C.TB,j*3+1,none⟩=some (.string tx))
  (first
   |(refine⟨?_,?_⟩<;>with_reducible assumption)
   |(refine⟨(Fr.cell (T:=λb=>b=gb) (w:=wk) ?_ UD UE).trans UF,(Fr.cell (T:=λb=>b=gb) (w:=wk) ?_ UG UH).trans Me⟩
     all_goals(subst M3;repeat(first|exact Fr.refl _ _|refine Fr.alloc ?_ _|refine Fr.own ?_ _ _)))
   |(refine⟨(Fr.cell (T:=NoT) (w:=w1) ?_ Qi id).trans yK,(Fr.cell (T:=NoT) (w:=w1) ?_ Qj id).trans t11⟩
     all_goals(repeat(first|exact Fr.refl _ _|refine Fr.alloc ?_ _|refine Fr.drew ?_))))
  (first
   |(go_at_call 245
     refine(zbw w1.drew).mono ?_;rintro _ wk ⟨kb,rfl,Km,Pa,Jz⟩;have Fo:=Ts _ _ Pa;have Fp:=Ts _ _ (Pa.kept (World.grownBy_alloc wk (.cells #[.int .u8 0,.nilFunc] 324) none) (by simp));have FF:Fr NoT w1 wk:=(Fr.drew (Fr.refl _ _)).trans Jz;have UF:=(FF.cell (p:=⟨C.P,0,none⟩) Qi id).trans yK;have Me:=(FF.cell (p:=⟨C.TB,j*3+1,none⟩) Qj id).trans t11;have UD:=ltq Qi FF.size;have UG:=ltq Qj FF.size;obtain⟨gb,M3⟩:=nmq wk.heap.size;have UE:¬C.P=gb:=by omega
     have UH:¬C.TB=gb:=by omega
     have HE:=hdq (λw9 h9=>YD wk w9 (.int .u8 k) (.func (.func (kwF k)) #[] #[]) FF h9);clear Pa Jz)
   |(go_at_call 245
     refine(zbw (w1.alloc (.cells #[.int .u8 0,.nilFunc] 324)).drew).mono ?_;rintro _ wk ⟨kb,rfl,Km,Pa,Jz⟩;have Fo:=Ts _ _ Pa;have FX:Fr NoT w1 (w1.alloc (.cells #[.int .u8 0,.nilFunc] 324)).drew :=Fr.drew ((Fr.refl _ _).alloc _);have N9:Bk (w1.alloc (.cells #[.int .u8 0,.nilFunc] 324)).drew w1.heap.size 324 #[.int .u8 0,.nilFunc]:=Bk.new _ _ _;have FF:Fr NoT w1 wk:=FX.trans Jz;have UF:=(FF.cell (p:=⟨C.P,0,none⟩) Qi id).trans yK;have Me:=(FF.cell (p:=⟨C.TB,j*3+1,none⟩) Qj id).trans t11;have UD:=ltq Qi FF.size;have UG:=ltq Qj FF.size;obtain⟨gb,M3⟩:=nmq w1.heap.size;have UE:¬C.P=gb:=by omega
     have UH:¬C.TB=gb:=by omega
     have Gm:=N9.fr0 Jz;have q0:=Gm.cell 0;have q1:=Gm.cell 1;have g0:=Gm.frozen 0;have g1:=Gm.frozen 1;have KL:=Gm.lt;simp only[getsL]at q0 q1;have HE:=hdq (λw9 h9=>Mi _ wk w9 (.int .u8 0) .nilFunc (.int .u8 k) (.func (.func (kwF k)) #[] #[]) FX N9 Jz h9);clear Pa Jz N9 FX Gm))
 all_goals
  have hS:=HE _ rfl;have Js:=zbk C l d _ HK.out hS.pa kR.out;unfold pP zdQ tkV at Js;have HS:=hdq hS;have Mg:=hdq Js;have HG:=hdq M3;have VD:w.heap.size+2<=gb:=by rw[M3];have:=FF.size;have:=HZ.out;omega
  clear Fo UF Me UD UG UE UH hS Js HE M3;try clear Fp
  try clear q0 q1 g0 g1 KL
  go_wp2_with fail;refine Mg.mono ?_;rintro e w10 ⟨rfl,hp,hf⟩;have hL:=HL.out;have Tq:=HS.beg.fr hf (λe=>by have e:_=C.P:=e;have:=HG.out;omega);rw[<-HG.out]at Tq ⊢;have Gu:=HS.st.fr hf (by omega) (by omega);have Fu:w.heap.size+1 < w10.heap.size:=by
   obtain⟨q,hq,_⟩:=Gu;exact hq.lt
  have gx:=HS.res.fr hf (λe=>by have e:w.heap.size=C.P:=e;omega);have G6:=HS.fr.any.trans hf;obtain⟨w11,JX⟩:=nmq (w10.setCell ⟨w.heap.size+1,0,none⟩ (.int .u8 k));have Pb:=Gu.kind (k:=k) (by rcases ze0 (hdT l).text with h|h|h|h|h|h|h|h<;>unfold in8<;>have:=Sp.out<;>omega);have JR:Fr (λb=>b=w.heap.size+1) w10 w11:=by rw[JX];exact Fr.own (Fr.refl _ _) _ _
  rw[<-JX]at Pb;have Gw:=(Tq.fr JR (λe=>by have e:gb=w.heap.size+1:=e;omega)).cell 1;have H9:=Tq.cell 0;have Kb:PaAt C w11 l.tail d:=hp.fr JR (λe=>by have e:C.P=w.heap.size+1:=e;omega) (λe=>by have e:C.TB=w.heap.size+1:=e;omega) (λi hi e=>by have e:i=w.heap.size+1:=e;omega);have UI:=zl4 C n J2.out (w.heap.size+1) (w.heap.size+2) l d w11 k a Sp.out MX.out HA.out VC.out HK.out Kb Pb (by omega) (by omega) (by omega) (by omega) (by have:=JR.size;omega);obtain⟨q,hq,_⟩:=Gu;have s0:=hq.cell 0;have z0:=hq.frozen 0;simp only[stC,List.getElem?_toArray,List.getElem?_cons_succ,List.getElem?_cons_zero]at s0 H9 Gw;rw[JX]at UI Gw;have kS:=hdq UI;have kT:=hdq (gx.fr JR (λe=>by have e:w.heap.size=w.heap.size+1:=e;omega));have Pu:=hdq ((PT.l G6 (rb:=w.heap.size+1)).trans (JR.mono λi _ h=> .inr h));have Rx:=hdq JX;have hent:=zkk k;unfold Enters at hent;clear hp hf Tq gx G6 Pb Kb UI JX JR hL hq;go_wp2_with fail;refine kS.mono ?_;intro e yn hE;have kU:=HL.out;unfold MetP at hE;cases hx:zaz (zag n) n l with
  |err c a=>
   rw[hx]at hE;obtain⟨rfl,hf⟩:=hE;rw[<-Rx.out]at hf;have Kc:=hdq (Pu.trans hf);unfold zae;clear hf;go_wp2_with fail;rw[HR.out,hx];exact⟨rfl,za2 Kc.out⟩
  |ok x r=>
   rw[hx]at hE;obtain⟨rfl,⟨p,hb,hs⟩,hp,hf⟩:=hE;rw[<-Rx.out]at hf;have Gn:=kT.fr hf (λe=>by rcases e with e|e<;>omega);have b0:=hb.cell 0;have b1:=hb.cell 1;have b2:=hb.cell 2;have b3:=hb.cell 3;have b4:=hb.cell 4;have b5:=hb.cell 5;have b6:=hb.cell 6;have r0:=Gn.cell 0;have r1:=Gn.cell 1;have r2:=Gn.cell 2;have r3:=Gn.cell 3;have r4:=Gn.cell 4;have r5:=Gn.cell 5;have r6:=Gn.cell 6;have y0:=Gn.frozen 0;have y1:=Gn.frozen 1;have y2:=Gn.frozen 2;have y3:=Gn.frozen 3;have y4:=Gn.frozen 4;have y5:=Gn.frozen 5;have y6:=Gn.frozen 6;simp only[stC,List.getElem?_toArray,List.getElem?_cons_succ,List.getElem?_cons_zero]at b0 b1 b2 b3 b4 b5 b6 r0 r1 r2 r3 r4 r5 r6;have Hl:=Gn.lt;have Vq:=hdq hs;have kV:=hdq hp;have Kc:=hdq (Pu.trans hf);have HX:=hdq hx;clear hb hs hp hf hx Gn kU;go_wp2_with fail;refine bodyPost_ret (v:= .agg #[.int .u8 x.k,.string x.nm,.slice p.A x.args.len p.c,.slice p.B x.cond.len p.q,.slice p.D x.body.len p.e,.slice p.E x.els.len p.f,.int .i64 x.at_]) (by simp[results,Tryz.results206,go_sem,r0,r1,r2,r3,r4,r5,r6,Hl]) rfl ?_;rw[HR.out,HX.out];exact zfx HL.out Vq.out kV.out Kc.out rfl
def StRow (w:World)(S:Nat->Prop):List St->List Value->Prop
 | [],cs=>cs= []
 |x::xs,cs=>∃p yf,cs=stC x p++yf/\StS w S x p/\StRow w S xs yf
theorem StRow.imp {w w':World}{S S':Nat->Prop}(hf:SameS S w w')(hs:∀b,S b->S' b):∀ {xs:List St} {cs:List Value},StRow w S xs cs->StRow w' S' xs cs
 | [],_,h=>h
 |x::xs,cs,h=>by
  obtain⟨p,yf,e,h1,h5⟩:=h;exact⟨p,yf,e,h1.imp hf hs,StRow.imp hf hs h5⟩
theorem StRow.snoc {w:World}{S:Nat->Prop}{y:St}{p:Loc}(hy:StS w S y p):∀ {xs:List St} {cs:List Value},StRow w S xs cs->StRow w S (xs++ [y]) (cs++stC y p)
 | [],cs,h=>by
  have h:cs= []:=h;subst h;exact⟨p, [],by simp,hy,rfl⟩
 |x::xs,cs,h=>by
  obtain⟨q,yf,e,h1,h5⟩:=h;exact⟨q,yf++stC y p,by rw[e,List.append_assoc],h1,StRow.snoc hy h5⟩
theorem StRow.len {w:World}{S:Nat->Prop}:∀ {xs:List St} {cs:List Value},StRow w S xs cs->cs.length=xs.length*7
 | [],cs,h=>by
  have h:cs= []:=h;subst h;rfl
 |x::xs,cs,h=>by
  obtain⟨q,yf,e,h1,h5⟩:=h;rw[e,List.length_append,StRow.len h5];simp[stC];omega
theorem StRow.stR {w:World}{S:Nat->Prop}{g:Nat}(hg:S g):∀ {xs:List St} {cs:List Value} {o:Nat},StRow w S xs cs->(∀j u,cs[j]?=some u->w.cell? ⟨g,o+j,none⟩=some u)->StR w S False (zam xs) g o
 | [],_,_,_,_=>trivial
 |x::xs,cs,o,h,hc=>by
  obtain⟨p,yf,e,h1,h5⟩:=h;subst e;refine⟨⟨hg,λh=>absurd h id,h1.k,h1.at_,hc 0 _ rfl,hc 1 _ rfl,hc 6 _ rfl⟩,⟨_,_,hc 2 _ rfl,h1.args⟩,⟨_,_,hc 3 _ rfl,h1.cond⟩,⟨_,_,hc 4 _ rfl,h1.body⟩,⟨_,_,hc 5 _ rfl,h1.els⟩,?_⟩;refine StRow.stR hg h5 λj u hj=>?_;have:=hc (7+j) u (by rw[List.getElem?_append_right (by simp[stC])];simpa[stC]using hj);rw[Nat.add_assoc];exact this
theorem znK {L:Nat}{w:World}{v:Value}{acc:List St}{cs:List Value}{S:Nat->Prop}(hr:w.ownsRow L 51 7 v acc.length cs)(hx:StRow w S acc cs)(hs:∀b,S b->L<=b/\b < w.heap.size)(hf:acc.length<=5001):StlV w L v acc:=by
 rcases hr.2 with⟨rfl,h0⟩|⟨g,cap,cur,rfl,hb,hg,hn,hc,Jk,ht⟩
 ·exact⟨none,0,by rw[zbS,h0],by rw[zbS,h0];exact⟨lrq _,⟨by decide,by omega⟩,λh=>absurd h (Nat.lt_irrefl 0)⟩⟩
 ·have hl:g < w.heap.size:=(Array.getElem?_eq_some_iff.1 hg).1;have Nj:cap<=9223372036854775807:=by unfold maxLen at hc;omega
  suffices GC:StR w (New L w) False (zam acc) g 0 by
   exact⟨some ⟨g,0,none⟩,cap,by rw[zbS],by rw[zbS];exact⟨hn,⟨Nj,by omega⟩,λ_=>⟨g,0,rfl,GC⟩⟩⟩
  refine StRow.stR ⟨hb,hl⟩ (StRow.imp (SameS.refl _ _) hs hx) λj u hj=>?_;have:=hr.cells (g:=g) rfl j u hj;have L7:(⟨g,0,none⟩:Addr).add j=⟨g,0+j,none⟩:=by
   rw[Nat.zero_add];unfold Addr.add;split<;>simp_all
  rw[L7]at this;exact this
theorem zbg {w:World}{base:Nat}{e:TypeId}{size g n cap:Nat}{xs:List Value}(h:w.ownsRow base e size (.slice (some ⟨g,0,none⟩) n cap) n xs)(j:Nat)(u:Value):(w.setCell ⟨g,j,none⟩ u).ownsRow base e size (.slice (some ⟨g,0,none⟩) n cap) n (xs.set j u):=(h.stored j u).1
structure BlkX (C:Pcx)(w:World)(d:Nat)(R:PR (List St))(one:List Tk->PR St)(lb pb:Nat)(v:Value)(wr:World)(acc:List St)(cs:List Value)(l:List Tk):Prop where
 eq:∃f,R=zbh one f acc l/\l.length<=f
 lcell:Bk wr lb 25 #[v]
 row:wr.ownsRow w.heap.size 51 7 v acc.length cs
 rows:StRow wr (NewR w.heap.size v wr) acc cs
 few:acc.length+l.length<=5000
 pa:PaAt C wr l d
 fr:Fr (PT C lb) w wr
theorem BlkX.step {C:Pcx}{w wr w7 w9:World}{d:Nat}{R:PR (List St)}{one:List Tk->PR St}{lb pb f:Nat}{v:Value}{acc:List St}{cs:List Value}{r r2:List Tk}{x:St}{p:Loc}{g cap:Nat}
  (hL:C.P < w.heap.size/\C.TB < w.heap.size/\C.W0.heap.size<=w.heap.size) (UJ:lb < w.heap.size) (Ry:lb≠C.P) (UK:lb≠C.TB) (Np:C.W0.heap.size<=lb)
  (hx:BlkX C w d R one lb pb v wr acc cs r) (hR:R=zbh one f (acc++ [x]) r2) (Rz:r2.length<=f) (Fj:r2.length < r.length)
  (hv:StS w7 (New wr.heap.size w7) x p) (hp:PaAt C w7 r2 d) (hf:Fr C.T wr w7) (W:World) (Lt:Fr NoT w7 W)
  (Hb:w9.ownsRow w.heap.size 51 7 (.slice (some ⟨g,0,none⟩) (acc.length+1) cap) (acc.length+1) (cs++zeroSt.toList))
  (hg:W.grownBy w9 v.ownBlock) (GG:v.ownBlock=some g\/g=W.heap.size) (w10:World)
  (Gv:w10=(((((((w9.setCell ⟨g,acc.length*7,none⟩ (.int .u8 x.k)).setCell ⟨g,acc.length*7+1,none⟩ (.string x.nm)).setCell ⟨g,acc.length*7+2,none⟩ (.slice p.A x.args.len p.c)).setCell ⟨g,acc.length*7+3,none⟩ (.slice p.B x.cond.len p.q)).setCell ⟨g,acc.length*7+4,none⟩ (.slice p.D x.body.len p.e)).setCell ⟨g,acc.length*7+5,none⟩ (.slice p.E x.els.len p.f)).setCell ⟨g,acc.length*7+6,none⟩ (.int .i64 x.at_)).setCell ⟨lb,0,none⟩ (.slice (some ⟨g,0,none⟩) (acc.length+1) cap)):
  BlkX C w d R one lb pb (.slice (some ⟨g,0,none⟩) (acc.length+1) cap) w10 (acc++ [x]) (cs++stC x p) r2:=by
 have Hl:=hx.row.lt;have UA:=hx.fr.size;have Rv:=hf.size;have Mx:=Lt.size;have LJ:=hg.size;have FI:=hx.rows.len;have KL:=Hb.lt g rfl;have VE:g≠lb:=by omega
 have YE:g≠C.P:=by omega
 obtain⟨w8,GS⟩:=nmq (((((((w9.setCell ⟨g,acc.length*7,none⟩ (.int .u8 x.k)).setCell ⟨g,acc.length*7+1,none⟩ (.string x.nm)).setCell ⟨g,acc.length*7+2,none⟩ (.slice p.A x.args.len p.c)).setCell ⟨g,acc.length*7+3,none⟩ (.slice p.B x.cond.len p.q)).setCell ⟨g,acc.length*7+4,none⟩ (.slice p.D x.body.len p.e)).setCell ⟨g,acc.length*7+5,none⟩ (.slice p.E x.els.len p.f)).setCell ⟨g,acc.length*7+6,none⟩ (.int .i64 x.at_));rw[<-GS]at Gv;have YF:w8.heap.size=w9.heap.size:=by rw[GS];simp
 have VF:w10.heap.size=w9.heap.size:=by rw[Gv];simp[YF]
 have Qk:Fr (λb=>b=g) w9 w8:=by rw[GS];exact Fr.own (Fr.own (Fr.own (Fr.own (Fr.own (Fr.own (Fr.own (Fr.refl _ _) _ _) _ _) _ _) _ _) _ _) _ _) _ _
 have Tt:Fr (λb=>b=lb) w8 w10:=by rw[Gv];exact Fr.own (Fr.refl _ _) _ _
 have Ql:w8.ownsRow w.heap.size 51 7 (.slice (some ⟨g,0,none⟩) (acc.length+1) cap) (acc.length+1) (cs++stC x p):=by
  have h1:=zbg (zbg (zbg (zbg (zbg (zbg (zbg Hb (acc.length*7) (.int .u8 x.k)) (acc.length*7+1) (.string x.nm)) (acc.length*7+2) (.slice p.A x.args.len p.c)) (acc.length*7+3) (.slice p.B x.cond.len p.q)) (acc.length*7+4) (.slice p.D x.body.len p.e)) (acc.length*7+5) (.slice p.E x.els.len p.f)) (acc.length*7+6) (.int .i64 x.at_);rw[<-GS]at h1;have e:(((((((cs++zeroSt.toList).set (acc.length*7) (.int .u8 x.k)).set (acc.length*7+1) (.string x.nm)).set (acc.length*7+2) (.slice p.A x.args.len p.c)).set (acc.length*7+3) (.slice p.B x.cond.len p.q)).set (acc.length*7+4) (.slice p.D x.body.len p.e)).set (acc.length*7+5) (.slice p.E x.els.len p.f)).set (acc.length*7+6) (.int .i64 x.at_)=cs++stC x p:=by
   rw[<-FI];simp[List.set_append,zeroSt,stC]
  rw[e]at h1;exact h1
 have VG:Fr (λb=>v.ownBlock=some b) W w9:=Fr.grown hg λg e _=>e;have K2:Fr (λb=>v.ownBlock=some b) w7 w9:=Lt.any.trans VG;have Qm:Fr (λb=>v.ownBlock=some b\/b=g\/b=lb) w7 w10:=((K2.mono λi _ h=>Or.inl h).trans (Qk.mono λi _ h=>Or.inr (Or.inl h))).trans (Tt.mono λi _ h=>Or.inr (Or.inr h));have Pc:Fr (λb=>b=C.P\/v.ownBlock=some b\/b=g\/b=lb) wr w10:=(hf.mono λi _ h=>Or.inl h).trans (Qm.mono λi _ h=>Or.inr h);have NP:∀b,b < w7.heap.size->v.ownBlock≠some b->b≠g:=λb hb hn e=>by
  subst e;rcases GG with h|h
  ·exact hn h
  ·omega
 have Jl:v.ownBlock≠some lb:=λe=>by have:=(Hl _ e).1;omega
 have Pd:v.ownBlock≠some C.P:=λe=>by have:=(Hl _ e).1;omega
 have YG:v.ownBlock≠some C.TB:=λe=>by have:=(Hl _ e).1;omega
 refine⟨⟨f,hR,Rz⟩,?_,?_,?_,?_,?_,?_⟩
 ·have h1:Bk w8 lb 25 #[v]:=((hx.lcell.fr hf (λe=>Ry e)).fr K2 Jl).fr Qk λe=>VE (by have e:lb=g:=e;exact e.symm);rw[Gv];simpa using h1.set_ 0 (.slice (some ⟨g,0,none⟩) (acc.length+1) cap)
 ·rw[Gv];have:=ownsRow_setCell_below Ql (a:=⟨lb,0,none⟩) UJ (.slice (some ⟨g,0,none⟩) (acc.length+1) cap);simpa using this
 ·refine StRow.snoc (hv.imp (Qm.same λb hb=>⟨hb.2,λe=>?_⟩) λb hb=>⟨by have:=hb.1;omega,by have:=hb.2;omega,λe=>?_⟩) (StRow.imp (Pc.same λb hb=>⟨hb.2.1,λe=>?_⟩) (λb hb=>⟨hb.1,by have:=hb.2.1;omega,λe=>?_⟩) hx.rows)
  ·have h1:=hb.1;have h2:=hb.2;rcases e with e|e|e
   ·have:=(Hl _ e).2;omega
   ·exact NP b h2 (λe=>by have:=(Hl _ e).2;omega) e
   ·omega
  ·have h1:=hb.1;have h2:=hb.2.1;have h3:=hb.2.2;rcases e with e|e|e|e
   ·omega
   ·exact h3 e
   ·exact NP b (by omega) h3 e
   ·omega
  ·have h1:=hb.1;have h2:=hb.2;have e:g=b:=by simpa[Value.ownBlock]using e
   exact NP b h2 (λe=>by have:=(Hl _ e).2;omega) e.symm
  ·have h2:=hb.2.1;have e:g=b:=by simpa[Value.ownBlock]using e
   exact NP b (by omega) hb.2.2 e.symm
 ·have:=hx.few;rw[List.length_append,List.length_cons,List.length_nil];omega
 ·refine hp.fr Qm (λe=>?_) (λe=>?_) (λi hi e=>?_)
  ·rcases e with e|e|e
   ·exact Pd e
   ·exact YE e.symm
   ·exact Ry e.symm
  ·rcases e with e|e|e
   ·exact YG e
   ·omega
   ·exact UK e.symm
  ·rcases e with e|e|e
   ·have:=(Hl _ e).1;omega
   ·omega
   ·omega
 ·refine((hx.fr.mono (T':=λb=>b=C.P\/v.ownBlock=some b\/b=g\/b=lb) λi _ h=>?_).trans Pc).mono λi hi e=>?_
  ·rcases h with h|h
   ·exact .inl h
   ·exact .inr (.inr (.inr h))
  ·rcases e with e|e|e|e
   ·exact .inl e
   ·have:=(Hl _ e).1;omega
   ·omega
   ·exact .inr e
def setE (n:Nat)(k:Int)(nm:ByteArray)(a:Int)(acc:List Ex)(r:List Tk):PR St:=(zal [61] r).then λ_ r=>(zaL n r).then λe r=>endS ⟨k,nm,zbi (acc++ [e]),.nil,.nil,.nil,a⟩ r
def setO (n:Nat)(nm:ByteArray)(a:Int)(r:List Tk):PR St:=if mayB [91] r then(za3 n r).then λi r=>setE n 3 nm a [i] r else setE n 2 nm a [] r
theorem ziI {blk:List Tk->PR (List St)}{n:Nat}{l:List Tk}(h:keyK (hdT l).text =0):zaz blk n l=(zaX l).then λx r=>setO n x.nm ((hdT l).at_ :Int) r:=by
 unfold zaz;simp only[h];rw[if_neg (by decide),if_neg (by decide),if_neg (by decide),if_neg (by decide),if_neg (by decide),if_neg (by decide)];rfl
structure SetX (C:Pcx)(w:World)(d:Nat)(k:Int)(nm:ByteArray)(a:Int)(v:Value)(acc:List Ex)(cs:List Value)(r:List Tk)(W:World):Prop where
 pa:PaAt C W r d
 st:Bk W (w.heap.size+1) 51 #[.int .u8 k,.string nm,v,.slice none 0 0,.slice none 0 0,.slice none 0 0,.int .i64 a]
 res:Bk W w.heap.size 51 zeroSt
 row:W.ownsRow (w.heap.size+2) 175 5 v acc.length cs
 rows:ExRow W (NewR (w.heap.size+2) v W) acc cs
 fr:Fr (PT C (w.heap.size+1)) w W
 few:acc.length<=1
theorem SetX.next {C:Pcx}{w W W':World}{d:Nat}{k a:Int}{nm:ByteArray}{v:Value}{acc:List Ex}{cs:List Value}{r r':List Tk}(hL:C.P < w.heap.size/\C.TB < w.heap.size/\C.W0.heap.size<=w.heap.size)(h:SetX C w d k nm a v acc cs r W)(hf:Fr C.T W W')(hp:PaAt C W' r' d):SetX C w d k nm a v acc cs r' W':=
 ⟨hp,h.st.fr hf λe=>by have e:w.heap.size+1=C.P:=e;omega,h.res.fr hf λe=>by have e:w.heap.size=C.P:=e;omega,zah h.row hf (by omega),
  h.rows.imp (hf.same λb hb=>⟨hb.2.1,λe=>by have e:b=C.P:=e;have:=hb.1;omega⟩) λb hb=>⟨hb.1,ltq hb.2.1 hf.size,hb.2.2⟩,h.fr.trans (PT.l hf),h.few⟩
theorem SetX.alloc {C:Pcx}{w W:World}{d:Nat}{k a:Int}{nm:ByteArray}{v:Value}{acc:List Ex}{cs:List Value}{r:List Tk}(hL:C.P < w.heap.size/\C.TB < w.heap.size/\C.W0.heap.size<=w.heap.size)(h:SetX C w d k nm a v acc cs r W)(o:Obj):SetX C w d k nm a v acc cs r (W.alloc o):=
 h.next hL ((Fr.refl _ _).alloc _) (h.pa.alloc o)
theorem SetX.start {C:Pcx}{w w10 w11:World}{d:Nat}{a:Int}{nm:ByteArray}{r:List Tk}(hL:C.P < w.heap.size/\C.TB < w.heap.size/\C.W0.heap.size<=w.heap.size)
  (hb:Bk w10 (w.heap.size+1) 51 #[.int .u8 0,.string ⟨#[]⟩,.slice none 0 0,.slice none 0 0,.slice none 0 0,.slice none 0 0,.int .i64 a]) (hr:Bk w10 w.heap.size 51 zeroSt) (hp:PaAt C w10 r d) (hf:Fr C.T w w10)
  (Q5:w11=(w10.setCell ⟨w.heap.size+1,0,none⟩ (.int .u8 2)).setCell ⟨w.heap.size+1,1,none⟩ (.string nm)):SetX C w d 2 nm a (.slice none 0 0) [] [] r w11:=by
 have JR:Fr (λb=>b=w.heap.size+1) w10 w11:=by rw[Q5];exact Fr.own (Fr.own (Fr.refl _ _) _ _) _ _
 refine⟨hp.fr JR (λe=>by have e:C.P=w.heap.size+1:=e;omega) (λe=>by have e:C.TB=w.heap.size+1:=e;omega) (λi hi e=>by have e:i=w.heap.size+1:=e;omega),?_,hr.fr JR (λe=>by have e:w.heap.size=w.heap.size+1:=e;omega),World.ownsRow_nil _ _ _ _,rfl,(PT.l hf).trans (JR.mono λi _ h=> .inr h),Nat.zero_le _⟩;have:=(hb.set_ 0 (.int .u8 2)).set_ 1 (.string nm);rw[Q5];simpa using this
theorem zg1 {w:World}{base g:Nat}{e:TypeId}{cs:List Value}{size:Nat}(hb:Bk w g e cs.toArray)(hg:base<=g)(hs:cs.length=1*size):w.ownsRow base e size (.slice (some ⟨g,0,none⟩) 1 1) 1 cs:=
 ⟨hs,.inr ⟨g,1,cs.toArray,rfl,hg,hb,lrq _,by decide,by simpa using hs,by rw[<-hs];simp⟩⟩
theorem SetX.index {C:Pcx}{w W w2 w3:World}{d:Nat}{a:Int}{nm:ByteArray}{r r':List Tk}{i:Ex}{A:Option Addr}{c:Nat}(hL:C.P < w.heap.size/\C.TB < w.heap.size/\C.W0.heap.size<=w.heap.size)(h:SetX C w d 2 nm a (.slice none 0 0) [] [] r W)
  (hf:Fr C.T W w2) (hp:PaAt C w2 r' d) (hv:ExV w2 W.heap.size (exV i.k i.nm i.n A i.args.len c i.at_) i)
  (h3:w3=((w2.setCell ⟨w.heap.size+1,0,none⟩ (.int .u8 3)).setCell ⟨w.heap.size+1,2,none⟩ (.slice (some ⟨w2.heap.size,0,none⟩) 1 1)).alloc (.cells (exC i A c).toArray 175)):
  SetX C w d 3 nm a (.slice (some ⟨w2.heap.size,0,none⟩) 1 1) [i] (exC i A c) r' w3:=by
 have Hl:=h.st.lt;have Rv:=hf.size;have h1:=h.next hL hf hp;have hn:Bk w3 w2.heap.size 175 (exC i A c).toArray :=by rw[h3];exact Bk.new_at _ _ _ (by simp)
 have JR:Fr (λb=>b=w.heap.size+1) w2 w3:=by rw[h3];exact(Fr.own (Fr.own (Fr.refl _ _) _ _) _ _).alloc _
 obtain⟨x1,x2,x3,Ax,cx,ex,Ju⟩:=hv;simp only[exV,Value.agg.injEq,Array.mk.injEq,List.cons.injEq,Value.slice.injEq,true_and,and_true]at ex;obtain⟨rfl,rfl⟩:=ex;have Pr:w3.heap.size=w2.heap.size+1:=by rw[h3];simp
 refine⟨h1.pa.fr JR (λe=>by have e:C.P=w.heap.size+1:=e;omega) (λe=>by have e:C.TB=w.heap.size+1:=e;omega) (λi hi e=>by have e:i=w.heap.size+1:=e;omega),?_,h1.res.fr JR (λe=>by have e:w.heap.size=w.heap.size+1:=e;omega),
  zg1 hn (by omega) rfl,⟨A,c, [],by simp,x1,x2,x3,?_,rfl⟩,h1.fr.trans (JR.mono λi _ h=> .inr h),lrq _⟩
 ·have:=((h1.st.set_ 0 (.int .u8 3)).set_ 2 (.slice (some ⟨w2.heap.size,0,none⟩) 1 1)).alloc (.cells (exC i A c).toArray 175);rw[h3];simpa using this
 ·have FX:=JR;refine Ju.imp λ_ _ h=>ExR.more (λb hb=>?_) (ExR.keep (FX.same λb hb=>⟨hb.2,λe=>?_⟩) h)
  ·have h1:=hb.1;have h2:=hb.2;exact⟨by omega,by omega,λe=>by have e:w2.heap.size=b:=(by simpa[Value.ownBlock]using e);omega⟩
  ·have e:b=w.heap.size+1:=e;have:=hb.1;omega
theorem zbl {P:Program}{ops:Array Oper}{o:Oper}{a:Act}{w:World}{K:Act->World->Prop}{Q:Exit->Act->World->Prop}{E:Prop}(f:Operand)(xs:Array Operand)(ts:Array TypeId)(h:o.op= .call {callee:= .value f,args:=xs,argTypes:=ts})
  (g:if Region.wanted o (yielded ops a.tmps)=true then Oper.wp P o a w K Q else E):if Region.wanted o (yielded ops a.tmps)=true then Oper.wp P o a w K Q else E:=g
theorem Bk.news {w:World}{g:Nat}{t:TypeId}{cs:Array Value}(h:Bk w g t cs):∀j u,cs.toList[j]?=some u->w.cell? ((⟨g,0,none⟩:Addr).add j)=some u:=World.news_of_block (fr:=(0,0)) (t:=t) h
def zeroEx:Array Value:= #[.int .u8 0,.string ⟨#[]⟩,.int .i64 0,.slice none 0 0,.int .i64 0]
theorem zcV {w:World}{base:Nat}{e:TypeId}{g cap n:Nat}{cs:List Value}(h:w.ownsRow base e 5 (.slice (some ⟨g,0,none⟩) (n+1) cap) (n+1) (cs++zeroEx.toList))(hl:cs.length=n*5):
  w.cell? ⟨g,n*5,none⟩=some (.int .u8 0)/\w.cell? ⟨g,n*5+1,none⟩=some (.string ⟨#[]⟩)/\w.cell? ⟨g,n*5+2,none⟩=some (.int .i64 0)/\w.cell? ⟨g,n*5+3,none⟩=some (.slice none 0 0)/\w.cell? ⟨g,n*5+4,none⟩=some (.int .i64 0)/\∀j,w.frozen? ⟨g,j,none⟩=false:=by
 have key:∀j,j < 5->w.cell? ⟨g,n*5+j,none⟩=zeroEx.toList[j]?:=λj hj=>by
  rw[h.cellAt (n*5+j) (by omega),List.getElem?_append_right (by omega),hl,Nat.add_sub_cancel_left]
 exact⟨key 0 (by omega),key 1 (by omega),key 2 (by omega),key 3 (by omega),key 4 (by omega),λj=>h.frozenAt j⟩
structure SetY (C:Pcx)(w:World)(d:Nat)(x:St)(p:Loc)(r:List Tk)(W:World):Prop where
 pa:PaAt C W r d
 st:Bk W (w.heap.size+1) 51 (stC x p).toArray
 res:Bk W w.heap.size 51 zeroSt
 hs:StS W (λb=>w.heap.size+2<=b/\b < W.heap.size/\b≠w.heap.size+1) x p
 fr:Fr (PT C (w.heap.size+1)) w W
theorem SetY.next {C:Pcx}{w W W':World}{d:Nat}{x:St}{p:Loc}{r r':List Tk}(hL:C.P < w.heap.size/\C.TB < w.heap.size/\C.W0.heap.size<=w.heap.size)(h:SetY C w d x p r W)(hf:Fr C.T W W')(hp:PaAt C W' r' d):SetY C w d x p r' W':=
 ⟨hp,h.st.fr hf λe=>by have e:w.heap.size+1=C.P:=e;omega,h.res.fr hf λe=>by have e:w.heap.size=C.P:=e;omega,
  h.hs.imp (hf.same λb hb=>⟨hb.2.1,λe=>by have e:b=C.P:=e;have:=hb.1;omega⟩) λb hb=>⟨hb.1,ltq hb.2.1 hf.size,hb.2.2⟩,h.fr.trans (PT.l hf)⟩
theorem SetX.step {C:Pcx}{w wr w7 w9:World}{d:Nat}{k a:Int}{nm:ByteArray}{v:Value}{acc:List Ex}{cs:List Value}{r r2:List Tk}{x:Ex}{A:Option Addr}{c g cap:Nat}
  (hL:C.P < w.heap.size/\C.TB < w.heap.size/\C.W0.heap.size<=w.heap.size) (J8:in8 k) (ha:in64 a)
  (hx:SetX C w d k nm a v acc cs r wr) (hv:ExV w7 wr.heap.size (exV x.k x.nm x.n A x.args.len c x.at_) x) (hp:PaAt C w7 r2 d) (hf:Fr C.T wr w7) (W:World) (Lt:Fr NoT w7 W)
  (Hb:w9.ownsRow (w.heap.size+2) 175 5 (.slice (some ⟨g,0,none⟩) (acc.length+1) cap) (acc.length+1) (cs++zeroEx.toList))
  (hg:W.grownBy w9 v.ownBlock) (GG:v.ownBlock=some g\/g=W.heap.size) (w10:World)
  (Gv:w10=(((((w9.setCell ⟨g,acc.length*5,none⟩ (.int .u8 x.k)).setCell ⟨g,acc.length*5+1,none⟩ (.string x.nm)).setCell ⟨g,acc.length*5+2,none⟩ (.int .i64 x.n)).setCell ⟨g,acc.length*5+3,none⟩ (.slice A x.args.len c)).setCell ⟨g,acc.length*5+4,none⟩ (.int .i64 x.at_)).setCell ⟨w.heap.size+1,2,none⟩ (.slice (some ⟨g,0,none⟩) (acc.length+1) cap)):
  SetY C w d ⟨k,nm,zbi (acc++ [x]),.nil,.nil,.nil,a⟩ ⟨some ⟨g,0,none⟩,cap,none,0,none,0,none,0⟩ r2 w10:=by
 have Hl:=hx.row.lt;have UA:=hx.fr.size;have Rv:=hf.size;have Mx:=Lt.size;have LJ:=hg.size;have FI:cs.length=acc.length*5:=hx.row.1;have KL:=Hb.lt g rfl;have Gu:=hx.st.lt;obtain⟨x1,x2,x3,Ax,cx,ex,Ju⟩:=hv;simp only[exV,Value.agg.injEq,Array.mk.injEq,List.cons.injEq,Value.slice.injEq,true_and,and_true]at ex;obtain⟨rfl,rfl⟩:=ex;obtain⟨w8,GS⟩:=nmq (((((w9.setCell ⟨g,acc.length*5,none⟩ (.int .u8 x.k)).setCell ⟨g,acc.length*5+1,none⟩ (.string x.nm)).setCell ⟨g,acc.length*5+2,none⟩ (.int .i64 x.n)).setCell ⟨g,acc.length*5+3,none⟩ (.slice A x.args.len c)).setCell ⟨g,acc.length*5+4,none⟩ (.int .i64 x.at_));rw[<-GS]at Gv;have YF:w8.heap.size=w9.heap.size:=by rw[GS];simp
 have VF:w10.heap.size=w9.heap.size:=by rw[Gv];simp[YF]
 have Qk:Fr (λb=>b=g) w9 w8:=by rw[GS];exact Fr.own (Fr.own (Fr.own (Fr.own (Fr.own (Fr.refl _ _) _ _) _ _) _ _) _ _) _ _
 have Tt:Fr (λb=>b=w.heap.size+1) w8 w10:=by rw[Gv];exact Fr.own (Fr.refl _ _) _ _
 have Ql:w8.ownsRow (w.heap.size+2) 175 5 (.slice (some ⟨g,0,none⟩) (acc.length+1) cap) (acc.length+1) (cs++exC x A c):=by
  have h1:=zbg (zbg (zbg (zbg (zbg Hb (acc.length*5) (.int .u8 x.k)) (acc.length*5+1) (.string x.nm)) (acc.length*5+2) (.int .i64 x.n)) (acc.length*5+3) (.slice A x.args.len c)) (acc.length*5+4) (.int .i64 x.at_);rw[<-GS]at h1;have e:(((((cs++zeroEx.toList).set (acc.length*5) (.int .u8 x.k)).set (acc.length*5+1) (.string x.nm)).set (acc.length*5+2) (.int .i64 x.n)).set (acc.length*5+3) (.slice A x.args.len c)).set (acc.length*5+4) (.int .i64 x.at_)=cs++exC x A c:=by
   rw[<-FI];simp[List.set_append,zeroEx,exC]
  rw[e]at h1;exact h1
 have VG:Fr (λb=>v.ownBlock=some b) W w9:=Fr.grown hg λg e _=>e;have K2:Fr (λb=>v.ownBlock=some b) w7 w9:=Lt.any.trans VG;have Qm:Fr (λb=>v.ownBlock=some b\/b=g\/b=w.heap.size+1) w7 w10:=((K2.mono λi _ h=>Or.inl h).trans (Qk.mono λi _ h=>Or.inr (Or.inl h))).trans (Tt.mono λi _ h=>Or.inr (Or.inr h));have Pc:Fr (λb=>b=C.P\/v.ownBlock=some b\/b=g\/b=w.heap.size+1) wr w10:=(hf.mono λi _ h=>Or.inl h).trans (Qm.mono λi _ h=>Or.inr h);have NP:∀b,b < w7.heap.size->v.ownBlock≠some b->b≠g:=λb hb hn e=>by
  subst e;rcases GG with h|h
  ·exact hn h
  ·omega
 have Qn:=ownsRow_setCell_below Ql (a:=⟨w.heap.size+1,2,none⟩) (by show w.heap.size+1 < w.heap.size+2;omega) (.slice (some ⟨g,0,none⟩) (acc.length+1) cap);rw[<-Gv]at Qn;have Rw:ExRow w10 (NewR (w.heap.size+2) (.slice (some ⟨g,0,none⟩) (acc.length+1) cap) w10) (acc++ [x]) (cs++exC x A c):=by
  refine ExRow.snoc ⟨x1,x2,x3,Ju.imp λ_ _ h=>ExR.more (T:=NewR (w.heap.size+2) (.slice (some ⟨g,0,none⟩) (acc.length+1) cap) w10) (λb hb=>?_) (ExR.keep (Qm.same λb hb=>⟨hb.2,λe=>?_⟩) h)⟩ (ExRow.imp (Pc.same λb hb=>⟨hb.2.1,λe=>?_⟩) (λb hb=>⟨hb.1,by have:=hb.2.1;omega,λe=>?_⟩) hx.rows)
  ·refine⟨by have:=hb.1;omega,by have:=hb.2;omega,λe=>?_⟩;have h1:=hb.1;have h2:=hb.2;have e:g=b:=by simpa[Value.ownBlock]using e
   exact NP b h2 (λe=>by have:=(Hl _ e).2;omega) e.symm
  ·have h1:=hb.1;have h2:=hb.2;rcases e with e|e|e
   ·have:=(Hl _ e).2;omega
   ·exact NP b h2 (λe=>by have:=(Hl _ e).2;omega) e
   ·omega
  ·have h1:=hb.1;have h2:=hb.2.1;have h3:=hb.2.2;rcases e with e|e|e|e
   ·omega
   ·exact h3 e
   ·exact NP b (by omega) h3 e
   ·omega
  ·have h2:=hb.2.1;have e:g=b:=by simpa[Value.ownBlock]using e
   exact NP b (by omega) hb.2.2 e.symm
 have hlen:(zbi (acc++ [x])).len =acc.length+1:=by rw[zby];simp
 obtain⟨A',c',he,Fu⟩:=zeg (S:=NewR (w.heap.size+2) (.slice (some ⟨g,0,none⟩) (acc.length+1) cap) w10) (by simpa using Qn) Rw (λb hb=>⟨hb.1,hb.2.1⟩) (by have:=hx.few;simp;omega);rw[hlen]at he Fu;simp only[Value.slice.injEq,true_and]at he;obtain⟨rfl,rfl⟩:=he;refine⟨hp.fr Qm (λe=>?_) (λe=>?_) (λi hi e=>?_),?_,?_,⟨J8,ha,?_,⟨lrq 0,sl0,λh=>absurd h (Nat.lt_irrefl 0)⟩,⟨lrq 0,⟨(by decide:(0:Nat)<=9223372036854775807),by exact Nat.zero_le _⟩,λh=>absurd h (Nat.lt_irrefl 0)⟩,⟨lrq 0,⟨(by decide:(0:Nat)<=9223372036854775807),by exact Nat.zero_le _⟩,λh=>absurd h (Nat.lt_irrefl 0)⟩⟩,?_⟩
 ·rcases e with e|e|e
  ·have:=(Hl _ e).1;omega
  ·omega
  ·omega
 ·rcases e with e|e|e
  ·have:=(Hl _ e).1;omega
  ·omega
  ·omega
 ·rcases e with e|e|e
  ·have:=(Hl _ e).1;omega
  ·omega
  ·omega
 ·have h1:Bk w8 (w.heap.size+1) 51 #[.int .u8 k,.string nm,v,.slice none 0 0,.slice none 0 0,.slice none 0 0,.int .i64 a]:=((hx.st.fr hf (λe=>by have e:w.heap.size+1=C.P:=e;omega)).fr K2 (λe=>by have:=(Hl _ e).1;omega)).fr Qk λe=>by have e:w.heap.size+1=g:=e;omega
  rw[Gv];have:=h1.set_ 2 (.slice (some ⟨g,0,none⟩) (acc.length+1) cap);simpa[stC,hlen,Cds.len,Sts.len]using this
 ·exact hx.res.fr Pc λe=>by
   rcases e with e|e|e|e
   ·omega
   ·have:=(Hl _ e).1;omega
   ·omega
   ·omega
 ·show SlR _ (zbi (acc++ [x])).len 64 _ _
  rw[hlen];exact Fu.imp λ_ _ h=>ExR.more (λb hb=>⟨hb.1,hb.2,by have:=hb.1;omega⟩) h
 ·refine((hx.fr.mono (T':=λb=>b=C.P\/v.ownBlock=some b\/b=g\/b=w.heap.size+1) λi _ h=>?_).trans Pc).mono λi hi e=>?_
  ·rcases h with h|h
   ·exact .inl h
   ·exact .inr (.inr (.inr h))
  ·rcases e with e|e|e|e
   ·exact .inl e
   ·have:=(Hl _ e).1;omega
   ·omega
   ·exact .inr e
theorem zar {w:World}{p q:Addr}(h:p.block≠q.block)(u v:Value):(w.setCell p u).setCell q v=(w.setCell q v).setCell p u:=by
 unfold World.setCell
 congr 1
 apply Array.ext_getElem?;intro i;simp only[Array.getElem?_modify];by_cases h1:p.block=i<;>by_cases h2:q.block=i
 ·exact absurd (h1.trans h2.symm) h
 ·simp[h1,h2]
 ·simp[h1,h2]
 ·simp[h1,h2]
theorem SetX.stepN {C:Pcx}{w wr w7 w9:World}{d:Nat}{k a:Int}{nm:ByteArray}{v:Value}{acc:List Ex}{cs:List Value}{r r2:List Tk}{x:Ex}{A:Option Addr}{c g cap:Nat}{o0 o1 o2 o3 o4 m:Nat}(ho:o0=acc.length*5/\o1=acc.length*5+1/\o2=acc.length*5+2/\o3=acc.length*5+3/\o4=acc.length*5+4/\m=acc.length+1)
  (hL:C.P < w.heap.size/\C.TB < w.heap.size/\C.W0.heap.size<=w.heap.size) (J8:in8 k) (ha:in64 a)
  (hx:SetX C w d k nm a v acc cs r wr) (hv:ExV w7 wr.heap.size (exV x.k x.nm x.n A x.args.len c x.at_) x) (hp:PaAt C w7 r2 d) (hf:Fr C.T wr w7) (W:World) (Lt:Fr NoT w7 W)
  (Hb:w9.ownsRow (w.heap.size+2) 175 5 (.slice (some ⟨g,0,none⟩) (acc.length+1) cap) (acc.length+1) (cs++zeroEx.toList))
  (hg:W.grownBy w9 v.ownBlock) (GG:v.ownBlock=some g\/g=W.heap.size) (w10:World)
  (Gv:w10=(((((w9.setCell ⟨g,o0,none⟩ (.int .u8 x.k)).setCell ⟨g,o1,none⟩ (.string x.nm)).setCell ⟨g,o2,none⟩ (.int .i64 x.n)).setCell ⟨g,o3,none⟩ (.slice A x.args.len c)).setCell ⟨g,o4,none⟩ (.int .i64 x.at_)).setCell ⟨w.heap.size+1,2,none⟩ (.slice (some ⟨g,0,none⟩) m cap)\/
   w10=(((((w9.setCell ⟨w.heap.size+1,2,none⟩ (.slice (some ⟨g,0,none⟩) m cap)).setCell ⟨g,o0,none⟩ (.int .u8 x.k)).setCell ⟨g,o1,none⟩ (.string x.nm)).setCell ⟨g,o2,none⟩ (.int .i64 x.n)).setCell ⟨g,o3,none⟩ (.slice A x.args.len c)).setCell ⟨g,o4,none⟩ (.int .i64 x.at_)):
  SetY C w d ⟨k,nm,zbi (acc++ [x]),.nil,.nil,.nil,a⟩ ⟨some ⟨g,0,none⟩,cap,none,0,none,0,none,0⟩ r2 w10:=by
 obtain⟨rfl,rfl,rfl,rfl,rfl,rfl⟩:=ho;have KL:=Hb.lt g rfl;refine SetX.step hL J8 ha hx hv hp hf W Lt Hb hg GG w10 ?_;rcases Gv with h|h
 ·exact h
 ·have Gc:∀j,(⟨w.heap.size+1,2,none⟩:Addr).block ≠(⟨g,j,none⟩:Addr).block :=λj e=>by
   have e:w.heap.size+1=g:=e;omega
  rw[h,zar (Gc _),zar (Gc _),zar (Gc _),zar (Gc _),zar (Gc _)]
theorem zl5 (C:Pcx)(n:Nat)(l:List Tk)(d:Nat)(w:World)(k:Int)(Kz:k=keyK (hdT l).text)(Gz:k=0)(Gd:d+n=24)(hk:C.Ok)(h:PaAt C w l d):
  Calls Tryz.prog 206 #[.pointer (some ⟨C.P,0,none⟩)] w (EndV C d ziH (zaz (zag n) n l) w):=by
 obtain⟨i0,hi,Jb,Hy,FR⟩:=info_parts zmT;have HI:=hdq (aiq hi (aiq Jb (aiq Hy FR)));clear hi Jb Hy FR;obtain⟨R,hR⟩:=nmq (zaz (zag n) n l);rw[<-hR];rw[ziI (by rw[<-Kz];exact Gz)]at hR;have hL:=h.lts;obtain⟨j,cap,m,GK,Jq,hl,Ln,FS,hb,p0,p1,f0,f1,t0,t1,t2,ltP,ltT⟩:=h.cells;have KG:m<=9223372036854775807:=by omega
 have JP:(0:Int) < (m:Int):=by omega
 have NW:(hdT l).text.length <=4096:=by
  have hd:=zaI hl h.ne;exact hk.len _ (List.mem_of_getElem? hd.1)
 obtain⟨a,ha⟩:∃a:Int,a=((hdT l).at_ :Int):=⟨_,rfl⟩;obtain⟨tx,LY⟩:=nmq (txt (hdT l));have KB:in64 a:=by rw[ha];exact zbc hk h
 rw[<-ha]at t2;rw[<-LY]at t1;rw[<-ha]at hR;have HR:=hdq hR;have HA:=hdq ha;have Sr:=hdq KB;obtain⟨w1,Hc⟩:=nmq ((w.alloc (.cells zeroSt 51)).alloc (.cells #[.int .u8 0,.string ⟨#[]⟩,.slice none 0 0,.slice none 0 0,.slice none 0 0,.slice none 0 0,.int .i64 a] 51));obtain⟨Gw,GP,Hg⟩:=ze1 w w1 a Hc;have hz:w1.heap.size=w.heap.size+2:=by rw[Hc];simp
 have e1:(!(k==0))=false:=by simpa using Gz
 have JK:∀(W:World)(b:Nat),KwM W b 7 kwTab->(Instr.lookup 326 (.map (some b)) (.string tx) true).run Tryz.prog W= .ok (.tuple #[.agg #[.int .u8 0,.nilFunc],.bool false]) W:=λW b hW=>by
  have:=zhE (w:=w) Kz LY NW hW;rw[if_pos Gz,e1]at this;exact this
 have yK:=(Hg.cell (p:=⟨C.P,0,none⟩) ltP id).trans p0;have t11:=(Hg.cell (p:=⟨C.TB,j*3+1,none⟩) ltT id).trans t1;have Qi:C.P < w1.heap.size:=by omega
 have Qj:C.TB < w1.heap.size:=by omega
 have Ts:=hdq JK;have Sp:=hdq Kz;have MX:=hdq Gz;have VC:=hdq Gd;have YD:=hdq (λ(wk w9:World)(u0 u1:Value)(Jz:Fr NoT w1 wk) h9=>zmY (C:=C) (u0:=u0) (u1:=u1) (w9:=w9) hL KB h Gw GP hz Hg Jz h9);have Mi:=hdq (λ(wa wk w9:World)(z0 z1 u0 u1:Value)(FX:Fr NoT w1 wa) N9 (Jz:Fr NoT wa wk) h9=>zmZ (C:=C) (u0:=u0) (u1:=u1) (z0:=z0) (z1:=z1) (w9:=w9) hL KB h Gw GP hz Hg FX N9 Jz h9);have Gg:=hdq Hc;have HZ:=hdq hz;have HK:=hdq hk;have HL:=hdq hL;have Hs:=hdq Hg;clear hR hb GK hl ha LY Kz Gz e1 JK Hc Gw GP hz Hg h hk hL NW KB;go_enter Tryz.func206,Tryz.ntmps206;go_wp2_with fail;rw[show(w.alloc (.cells #[.int .u8 0,.string ⟨#[]⟩,.slice none 0 0,.slice none 0 0,.slice none 0 0,.slice none 0 0,.int .i64 0] 51)).alloc (.cells #[.int .u8 0,.string ⟨#[]⟩,.slice none 0 0,.slice none 0 0,.slice none 0 0,.slice none 0 0,.int .i64 a] 51)=w1 from Gg.symm];clear p0 t1 t2 p1 f0 f1 t0;go_cut [4,5] (λs4 s5 wx=>s5= .bool false/\∃gb,s4= .pointer (some ⟨gb,0,none⟩)/\Hid (StmR C w w.heap.size (w.heap.size+1) gb l d ⟨0,noB,.nil,.nil,.nil,.nil,a⟩ (.int .u8 0) .nilFunc wx/\w.heap.size+2<=gb));case first=>
  go_region_held2 (λW'=>W'.cell? ⟨C.P,0,none⟩=some (.slice (some ⟨C.TB,j*3,none⟩) m cap)/\W'.cell? ⟨C.TB,j*3+1,none⟩=some (.string tx))
   (first
    |(refine⟨?_,?_⟩<;>with_reducible assumption)
    |(refine⟨(Fr.cell (T:=λb=>b=gb) (w:=wk) ?_ UD UE).trans UF,(Fr.cell (T:=λb=>b=gb) (w:=wk) ?_ UG UH).trans Me⟩
      all_goals(subst M3;repeat(first|exact Fr.refl _ _|refine Fr.alloc ?_ _|refine Fr.own ?_ _ _)))
    |(refine⟨(Fr.cell (T:=NoT) (w:=w1) ?_ Qi id).trans yK,(Fr.cell (T:=NoT) (w:=w1) ?_ Qj id).trans t11⟩
      all_goals(repeat(first|exact Fr.refl _ _|refine Fr.alloc ?_ _|refine Fr.drew ?_))))
   (first
    |(go_at_call 245
      refine(zbw w1.drew).mono ?_;rintro _ wk ⟨kb,rfl,Km,Pa,Jz⟩;have Fo:=Ts _ _ Pa;have Fp:=Ts _ _ (Pa.kept (World.grownBy_alloc wk (.cells #[.int .u8 0,.nilFunc] 324) none) (by simp));have FF:Fr NoT w1 wk:=(Fr.drew (Fr.refl _ _)).trans Jz;have UF:=(FF.cell (p:=⟨C.P,0,none⟩) Qi id).trans yK;have Me:=(FF.cell (p:=⟨C.TB,j*3+1,none⟩) Qj id).trans t11;have UD:=ltq Qi FF.size;have UG:=ltq Qj FF.size;obtain⟨gb,M3⟩:=nmq wk.heap.size;have UE:¬C.P=gb:=by omega
      have UH:¬C.TB=gb:=by omega
      have HE:=hdq (λw9 h9=>YD wk w9 (.int .u8 0) .nilFunc FF h9);clear Pa Jz)
    |(go_at_call 245
      refine(zbw (w1.alloc (.cells #[.int .u8 0,.nilFunc] 324)).drew).mono ?_;rintro _ wk ⟨kb,rfl,Km,Pa,Jz⟩;have Fo:=Ts _ _ Pa;have FX:Fr NoT w1 (w1.alloc (.cells #[.int .u8 0,.nilFunc] 324)).drew :=Fr.drew ((Fr.refl _ _).alloc _);have N9:Bk (w1.alloc (.cells #[.int .u8 0,.nilFunc] 324)).drew w1.heap.size 324 #[.int .u8 0,.nilFunc]:=Bk.new _ _ _;have FF:Fr NoT w1 wk:=FX.trans Jz;have UF:=(FF.cell (p:=⟨C.P,0,none⟩) Qi id).trans yK;have Me:=(FF.cell (p:=⟨C.TB,j*3+1,none⟩) Qj id).trans t11;have UD:=ltq Qi FF.size;have UG:=ltq Qj FF.size;obtain⟨gb,M3⟩:=nmq w1.heap.size;have UE:¬C.P=gb:=by omega
      have UH:¬C.TB=gb:=by omega
      have Gm:=N9.fr0 Jz;have q0:=Gm.cell 0;have q1:=Gm.cell 1;have g0:=Gm.frozen 0;have g1:=Gm.frozen 1;have KL:=Gm.lt;simp only[getsL]at q0 q1;have HE:=hdq (λw9 h9=>Mi _ wk w9 (.int .u8 0) .nilFunc (.int .u8 0) .nilFunc FX N9 Jz h9);clear Pa Jz N9 FX Gm))
  all_goals
   have VD:w.heap.size+2<=gb:=by rw[M3];have:=FF.size;have:=HZ.out;omega
   rw[M3]at VD;have YH:=hdq VD;clear VD;go_wp2_with fail
   go_meet
   exact⟨rfl,_,rfl,hdq ⟨HE _ rfl,YH.out⟩⟩
 case rest=>
  obtain⟨rfl,gb,rfl,Nn⟩:=hcut;have HN:=hdq (zbs C l d _ HK.out Nn.1.pa);have HS:=hdq Nn.1;have YH:=hdq Nn.2;clear Nn;go_wp2_with fail;refine HN.mono ?_;intro e w10 hE;rcases hE.ways with⟨v,r,hx,rfl,Fh,hp,hf⟩|⟨c,a2,hx,rfl,hf⟩;rotate_left
  ·go_wp2_with fail;exact⟨rfl,by rw[HR.out,hx];exact za2 (PT.l (HS.fr.any.trans hf))⟩
  have GA:=HR.out;rw[hx]at GA;replace GA:R=setO n v.nm a r:=GA;obtain⟨nm,Jp⟩:=nmq v.nm;rw[<-Jp]at GA ⊢;have GB:=hdq GA;have hL:=HL.out;have Fm:=HS.raw.fr hf (λe=>by have e:w.heap.size+1=C.P:=e;omega);have VH:=HS.res.fr hf (λe=>by have e:w.heap.size=C.P:=e;omega);have s0:=Fm.cell 0;have s1:=Fm.cell 1;have z0:=Fm.frozen 0;have z1:=Fm.frozen 1;simp only[getsL]at s0 s1;have Tu:=hdq (λw11 Q5=>SetX.start (w11:=w11) (nm:=nm) HL.out Fm VH hp (HS.fr.any.trans hf) Q5);have GR:w.heap.size+2<=w10.heap.size:=by have h1:=HS.beg.lt;have h2:=hf.size;have h3:=YH.out;omega
  have JV:=hdq GR;clear hx Fh hp hf GA hL Fm VH GR Jp;obtain⟨w11,JX⟩:=nmq ((w10.setCell ⟨w.heap.size+1,0,none⟩ (.int .u8 2)).setCell ⟨w.heap.size+1,1,none⟩ (.string nm));have KE:=Tu w11 JX;have Pe:w11.heap.size=w10.heap.size:=by rw[JX];simp
  cases hm:mayB [91] r
  ·have hi:=zdl C [91] r d w11.heap.size _ (KE.pa.alloc (.cells #[.string ⟨#[91]⟩] 9)) hm (by simp);unfold pP at hi;have Ju:=KE.alloc HL.out (.cells #[.string ⟨#[91]⟩] 9);obtain⟨WT,G9⟩:=nmq (w11.alloc (.cells #[.string ⟨#[91]⟩] 9));rw[<-G9]at Ju;have MK:WT.heap.size=w10.heap.size+1:=by rw[G9];simp[Pe]
   have YI:=hdq (show w10.heap.size<=WT.heap.size by omega);rw[Pe,JX]at hi;rw[JX]at G9;have S0:=hdq hi;have G8:=hdq (show R=setE n 2 nm a [] r from by rw[GB.out,setO,hm];rfl);have Qo:=hdq Ju;have YJ:=hdq G9;have LR:=hdq MK;clear JX KE Pe hi hm Ju G9 MK;go_wp2_with fail;refine S0.mono ?_;rintro _ yn ⟨q,hq,rfl,rfl⟩;have Ju:=Qo.out;have G9:=YJ.out;have VI:=LR.out;have ht:=zas C [61] r d WT.heap.size _ HK.out (Ju.pa.alloc (.cells #[.string ⟨#[61]⟩] 9)) (by decide) (by simp);have Tu:=hdq (Ju.alloc HL.out (.cells #[.string ⟨#[61]⟩] 9));rw[VI,G9]at ht;have YK:=hdq G9;have HT:=hdq ht;clear Ju ht VI G9;go_wp2_with fail;refine HT.mono ?_;intro e w4 hE;rw[<-YK.out]at hE;rcases hE with⟨ht,rfl,hp,hf⟩|⟨ht,rfl,hf⟩;rotate_left
   ·go_wp2_with fail;exact⟨rfl,by rw[G8.out,setE,ht];exact za2 (Tu.fr.trans (PT.l hf))⟩
   have JW:=G8.out;rw[setE,ht]at JW;replace JW:R=(zaL n r.tail).then λe r=>endS ⟨2,nm,zbi (([]:List Ex)++ [e]),.nil,.nil,.nil,a⟩ r:=JW;have KH:=hdq JW;have Lo:=Tu.next HL.out hf hp;have Pv:=hdq (λW (hW:Fr NoT w4 W)=>zbY C n r.tail d W VC.out HK.out (Lo.pa.fr hW id id λ_ _=>id));have YL:w.heap.size+2<=w4.heap.size:=leq9 JV.out (leq9 (by rw[World.size_alloc];exact leq9 YI.out (Nat.le_succ _)) hf.size);have YM:w.heap.size+1 < w4.heap.size:=by omega
   have s2:=Lo.st.cell 2;have z2:=Lo.st.frozen 2;simp only[getsL]at s2;have Mm:=hdq Lo;clear ht hp hf JW Lo;go_wp2_with fail;go_cut [60] (λxc wx=>∃(xs:St)(pl:Loc)(r3:List Tk),Hid (R=endS xs r3/\SetY C w d xs pl r3 wx));case first=>
    go_region_law
     (first
      |(refine zbl _ _ _ (by rfl) ?_
        go_simp;go_at_call 247
        with_reducible refine(Pv.out w4.drew (Fr.drew (Fr.refl _ _))).mono ?_
        intro e w7 hE;rcases hE.ways with⟨x,r3,A,c,hX,rfl,hv,hp,hf⟩|⟨c,a2,hX,rfl,hf⟩;case inr=>exact⟨rfl,by rw[KH.out,hX];exact za2 (Mm.fr.trans (PT.l ((Fr.drew (Fr.refl C.T w4)).trans hf)))⟩
        have Hp:Fr C.T w4 w7:=(Fr.drew (Fr.refl C.T w4)).trans hf;have K7:=Mm.next HL.out Hp hp;have yL:=K7.st.cell 2;have zn:=K7.st.frozen 2;have ML:=Hp.size;have Tv:w.heap.size+1 < w7.heap.size:=by omega
        simp only[getsL]at yL;have HX:=hdq hX;have HV:=hdq hv;have HP:=hdq hp;have GV:=hdq Hp;have Nq:=hdq (K7.alloc HL.out (.cells #[.int .u8 0,.string ⟨#[]⟩,.int .i64 0,.slice none 0 0,.int .i64 0] 175));have J1:=hdq (Bk.new w7 175 zeroEx).news;have HW:=hdq (show Fr NoT w7 (w7.alloc (.cells #[.int .u8 0,.string ⟨#[]⟩,.int .i64 0,.slice none 0 0,.int .i64 0] 175))from(Fr.refl _ _).alloc _);have YN:=K7.row.lt;clear hX hv hp hf Hp K7;dsimp only)
      |(refine zbl _ _ _ (by rfl) ?_
        go_simp;go_at_call 247
        with_reducible refine(Pv.out (w4.alloc (.cells #[.int .u8 0,.string ⟨#[]⟩,.int .i64 0,.slice none 0 0,.int .i64 0] 175)).drew (Fr.drew ((Fr.refl _ _).alloc _))).mono ?_
        intro e w7 hE;rcases hE.ways with⟨x,r3,A,c,hX,rfl,hv,hp,hf⟩|⟨c,a2,hX,rfl,hf⟩;case inr=>exact⟨rfl,by rw[KH.out,hX];exact za2 (Mm.fr.trans (PT.l ((Fr.drew ((Fr.refl C.T w4).alloc _)).trans hf)))⟩
        have Jc:Fr C.T w4 (w4.alloc (.cells zeroEx 175)).drew :=Fr.drew ((Fr.refl C.T w4).alloc _);have Hp:Fr C.T w4 w7:=Jc.trans hf;have K7:=Mm.next HL.out Hp hp;have yL:=K7.st.cell 2;have zn:=K7.st.frozen 2;have ML:=Hp.size;have Tv:w.heap.size+1 < w7.heap.size:=by omega
        simp only[getsL]at yL;have HX:=hdq hX;have HV:=hdq (hv.low (L':=w4.heap.size) Jc.size);have HP:=hdq hp;have GV:=hdq Hp;have Nq:=hdq K7;have J1:=hdq (((show Bk (w4.alloc (.cells zeroEx 175)).drew w4.heap.size 175 zeroEx from Bk.new _ _ _).fr hf (λe=>by have e:w4.heap.size=C.P:=e;have:=HL.1;omega))).news;have HW:=hdq (Fr.refl NoT w7);have YN:=K7.row.lt;clear hX hv hp hf Hp K7 Jc;dsimp only)
      |(refine step_append_lies _ (by rfl) _ _ _ (by rfl) (w.heap.size+2) 175 i0 (.agg zeroEx) 5 64 Tryz.underlying48 HI.1 HI.2.1 HI.2.2.1 HI.2.2.2 rfl (by decide) (.slice none 0 0) 0 [] (by rfl) Nq.row ⟨w7.heap.size,0,none⟩ 1 1 zeroEx.toList (by rfl) (by rfl) J1.out (by simp[zeroEx,Value.oneCell']) (by omega) (by decide) (by decide) (by rw[World.size_alloc];omega) (w7.heap.size+1) (World.size_alloc _ _) ?_
        intro gg cap w9 Hb Hd GG Hl;have VJ:=Hb.lt gg rfl;obtain⟨c0,c1,c2,c3,c4,cf⟩:=zcV (n:=0) Hb (by rfl);simp only[Nat.zero_mul,Nat.one_mul,Nat.zero_add,Nat.reduceAdd,Nat.reduceMul]at c0 c1 c2 c3 c4;have yO:=cf 0;have yP:=cf 1;have yQ:=cf 2;have yR:=cf 3;have yS:=cf 4;have Tw:w9.cell? ⟨w.heap.size+1,2,none⟩=some (.slice none 0 0):=(Hd.cell_far ⟨w.heap.size+1,2,none⟩ (by show w.heap.size+1 < _;rw[World.size_alloc];omega) (by simp[Value.ownBlock])).trans (Nq.st.cell 2);have Tx:w9.frozen? ⟨w.heap.size+1,2,none⟩=false:=(Hd.frozen_far ⟨w.heap.size+1,2,none⟩ (by show w.heap.size+1 < _;rw[World.size_alloc];omega) (by simp[Value.ownBlock])).trans (Nq.st.frozen 2);have Pf:¬w.heap.size+1=gg:=by omega
        have Fl:¬gg=w.heap.size+1:=by omega
        have HE:=hdq (λw10 Jn=>SetX.stepN (w10:=w10) (o0:=0) (o1:=1) (o2:=2) (o3:=3) (o4:=4) (m:=1) ⟨rfl,rfl,rfl,rfl,rfl,rfl⟩ HL.out (by unfold in8;omega) Sr.out Mm.out HV.out HP.out GV.out _ HW.out Hb Hd (GG.imp id λe=>by rw[World.size_alloc];exact e) Jn);clear Hb cf Hd GG)
      |(refine step_append_lies _ (by rfl) _ _ _ (by rfl) (w.heap.size+2) 175 i0 (.agg zeroEx) 5 64 Tryz.underlying48 HI.1 HI.2.1 HI.2.2.1 HI.2.2.2 rfl (by decide) (.slice none 0 0) 0 [] (by rfl) Nq.row ⟨w4.heap.size,0,none⟩ 1 1 zeroEx.toList (by rfl) (by rfl) J1.out (by simp[zeroEx,Value.oneCell']) (by omega) (by decide) (by decide) (by omega) w7.heap.size rfl ?_
        intro gg cap w9 Hb Hd GG Hl;have VJ:=Hb.lt gg rfl;obtain⟨c0,c1,c2,c3,c4,cf⟩:=zcV (n:=0) Hb (by rfl);simp only[Nat.zero_mul,Nat.one_mul,Nat.zero_add,Nat.reduceAdd,Nat.reduceMul]at c0 c1 c2 c3 c4;have yO:=cf 0;have yP:=cf 1;have yQ:=cf 2;have yR:=cf 3;have yS:=cf 4;have Tw:w9.cell? ⟨w.heap.size+1,2,none⟩=some (.slice none 0 0):=(Hd.cell_far ⟨w.heap.size+1,2,none⟩ (by show w.heap.size+1 < _;omega) (by simp[Value.ownBlock])).trans (Nq.st.cell 2);have Tx:w9.frozen? ⟨w.heap.size+1,2,none⟩=false:=(Hd.frozen_far ⟨w.heap.size+1,2,none⟩ (by show w.heap.size+1 < _;omega) (by simp[Value.ownBlock])).trans (Nq.st.frozen 2);have Pf:¬w.heap.size+1=gg:=by omega
        have Fl:¬gg=w.heap.size+1:=by omega
        have HE:=hdq (λw10 Jn=>SetX.stepN (w10:=w10) (o0:=0) (o1:=1) (o2:=2) (o3:=3) (o4:=4) (m:=1) ⟨rfl,rfl,rfl,rfl,rfl,rfl⟩ HL.out (by unfold in8;omega) Sr.out Mm.out HV.out HP.out GV.out _ HW.out Hb Hd GG Jn);clear Hb cf Hd GG))
    all_goals
     have J6:=KH.out;rw[HX.out]at J6;replace J6:R=endS ⟨2,nm,zbi (([]:List Ex)++ [x]),.nil,.nil,.nil,a⟩ r3:=J6;have MH:=hdq J6;clear J6;go_wp2_with fail
     go_meet
     first
      |exact⟨_,_,_,hdq ⟨MH.out,HE _ (.inl (by with_reducible rfl))⟩⟩
      |exact⟨_,_,_,hdq ⟨MH.out,HE _ (.inr (by with_reducible rfl))⟩⟩
   case rest=>
    obtain⟨xs,pl,r3,KX⟩:=hcut;have MH:=hdq KX.1;have HY:=hdq KX.2;have Ty:=hdq (zas C [59] r3 d wc.heap.size _ HK.out (HY.pa.alloc (.cells #[.string ⟨#[59]⟩] 9)) (by decide) (by simp));have VK:=hdq (show Fr C.T wc (wc.alloc (.cells #[.string ⟨#[59]⟩] 9))from(Fr.refl _ _).alloc _);clear KX s2 z2;go_wp2_with fail;refine Ty.mono ?_;intro e yn hE;rcases hE with⟨ht,rfl,hp,hf⟩|⟨ht,rfl,hf⟩;rotate_left
    ·go_wp2_with fail;exact⟨rfl,by rw[MH.out,endS,ht];exact za2 (HY.fr.trans (PT.l (VK.trans hf)))⟩
    have hy:=HY.next HL.out (VK.trans hf) hp;have hb:=hy.st;have Gn:=hy.res;have b0:=hb.cell 0;have b1:=hb.cell 1;have b2:=hb.cell 2;have b3:=hb.cell 3;have b4:=hb.cell 4;have b5:=hb.cell 5;have b6:=hb.cell 6;have o0:=Gn.cell 0;have o1:=Gn.cell 1;have o2:=Gn.cell 2;have o3:=Gn.cell 3;have o4:=Gn.cell 4;have o5:=Gn.cell 5;have o6:=Gn.cell 6;have y0:=Gn.frozen 0;have y1:=Gn.frozen 1;have y2:=Gn.frozen 2;have y3:=Gn.frozen 3;have y4:=Gn.frozen 4;have y5:=Gn.frozen 5;have y6:=Gn.frozen 6;simp only[stC,zeroSt,List.getElem?_toArray,List.getElem?_cons_succ,List.getElem?_cons_zero]at b0 b1 b2 b3 b4 b5 b6 o0 o1 o2 o3 o4 o5 o6;have L5:=Gn.lt;have Tz:=hdq hy;have YO:=hdq ht;clear hy hb Gn ht hp hf;go_wp2_with fail;refine bodyPost_ret (v:= .agg #[.int .u8 xs.k,.string xs.nm,.slice pl.A xs.args.len pl.c,.slice pl.B xs.cond.len pl.q,.slice pl.D xs.body.len pl.e,.slice pl.E xs.els.len pl.f,.int .i64 xs.at_]) (by simp[results,Tryz.results206,go_sem,o0,o1,o2,o3,o4,o5,o6,L5]) rfl ?_;rw[MH.out,endS,YO.out];exact zfx HL.out Tz.hs Tz.pa Tz.fr rfl
  ·have hi:=zcq C [91] r d w11.heap.size _ (KE.pa.alloc (.cells #[.string ⟨#[91]⟩] 9)) hm (by simp);unfold pP at hi;have Ju:=KE.alloc HL.out (.cells #[.string ⟨#[91]⟩] 9);have YP:=zia C n r d _ VC.out HK.out Ju.pa;have MK:(w11.alloc (.cells #[.string ⟨#[91]⟩] 9)).heap.size =w10.heap.size+1:=by simp[Pe]
   rw[Pe,JX]at hi;rw[JX]at YP;have S0:=hdq hi;have XX:=hdq YP;have G8:=hdq (show R=(za3 n r).then λi r=>setE n 3 nm a [i] r from by rw[GB.out,setO,hm];rfl);have Qo:=hdq Ju;have Rx:=hdq JX;have LR:=hdq MK;clear JX KE Pe hi hm Ju YP MK;go_wp2_with fail;refine S0.mono ?_;rintro _ yn ⟨rfl,rfl⟩;go_wp2_with fail;refine XX.mono ?_;intro e yr hE;rw[<-Rx.out]at hE;rcases hE.ways with⟨i,r2,A0,q0,hI,rfl,hv,hp,hf⟩|⟨c,a2,hI,rfl,hf⟩;rotate_left
   ·go_wp2_with fail;exact⟨rfl,by rw[G8.out,hI];exact za2 (Qo.fr.trans (PT.l hf))⟩
   have GE:=G8.out;rw[hI]at GE;replace GE:R=setE n 3 nm a [i] r2:=GE;have G8:=hdq GE;have Qp:=Qo.next HL.out hf hp;have u0:=Qp.st.cell 0;have u2:=Qp.st.cell 2;have v0:=Qp.st.frozen 0;have v2:=Qp.st.frozen 2;simp only[getsL]at u0 u2;obtain⟨WT,G9⟩:=nmq (((yr.setCell ⟨w.heap.size+1,0,none⟩ (.int .u8 3)).setCell ⟨w.heap.size+1,2,none⟩ (.slice (some ⟨yr.heap.size,0,none⟩) 1 1)).alloc (.cells #[.int .u8 i.k,.string i.nm,.int .i64 i.n,.slice A0 i.args.len q0,.int .i64 i.at_] 175));have Ju:=SetX.index HL.out Qo.out hf hp hv G9;have MK:WT.heap.size=yr.heap.size+1:=by rw[G9];simp
   have kW:w10.heap.size+1<=yr.heap.size:=by have:=hf.size;have:=LR.out;omega
   have YI:=hdq (show w10.heap.size<=WT.heap.size by omega);have LR:=hdq MK;have gy:w.heap.size+1 < yr.heap.size:=by have:=JV.out;omega
   clear hI hv hp hf GE Qp MK;have VI:=LR.out;have ht:=zas C [61] r2 d WT.heap.size _ HK.out (Ju.pa.alloc (.cells #[.string ⟨#[61]⟩] 9)) (by decide) (by simp);have Tu:=hdq (Ju.alloc HL.out (.cells #[.string ⟨#[61]⟩] 9));rw[VI,G9]at ht;have YK:=hdq G9;have HT:=hdq ht;clear Ju ht VI G9;go_wp2_with fail;refine HT.mono ?_;intro e w4 hE;rw[<-YK.out]at hE;rcases hE with⟨ht,rfl,hp,hf⟩|⟨ht,rfl,hf⟩;rotate_left
   ·go_wp2_with fail;exact⟨rfl,by rw[G8.out,setE,ht];exact za2 (Tu.fr.trans (PT.l hf))⟩
   have JW:=G8.out;rw[setE,ht]at JW;replace JW:R=(zaL n r2.tail).then λe r=>endS ⟨3,nm,zbi ([i]++ [e]),.nil,.nil,.nil,a⟩ r:=JW;have KH:=hdq JW;have Lo:=Tu.next HL.out hf hp;have Pv:=hdq (λW (hW:Fr NoT w4 W)=>zbY C n r2.tail d W VC.out HK.out (Lo.pa.fr hW id id λ_ _=>id));have YL:w.heap.size+2<=w4.heap.size:=leq9 JV.out (leq9 (by rw[World.size_alloc];exact leq9 YI.out (Nat.le_succ _)) hf.size);have YM:w.heap.size+1 < w4.heap.size:=by omega
   have s2:=Lo.st.cell 2;have z2:=Lo.st.frozen 2;simp only[getsL]at s2;have Mm:=hdq Lo;clear ht hp hf JW Lo;go_wp2_with fail;go_cut [60] (λxc wx=>∃(xs:St)(pl:Loc)(r3:List Tk),Hid (R=endS xs r3/\SetY C w d xs pl r3 wx));case first=>
    go_region_law
     (first
      |(refine zbl _ _ _ (by rfl) ?_
        go_simp;go_at_call 247
        with_reducible refine(Pv.out w4.drew (Fr.drew (Fr.refl _ _))).mono ?_
        intro e w7 hE;rcases hE.ways with⟨x,r3,A,c,hX,rfl,hv,hp,hf⟩|⟨c,a2,hX,rfl,hf⟩;case inr=>exact⟨rfl,by rw[KH.out,hX];exact za2 (Mm.fr.trans (PT.l ((Fr.drew (Fr.refl C.T w4)).trans hf)))⟩
        have Hp:Fr C.T w4 w7:=(Fr.drew (Fr.refl C.T w4)).trans hf;have K7:=Mm.next HL.out Hp hp;have yL:=K7.st.cell 2;have zn:=K7.st.frozen 2;have ML:=Hp.size;have Tv:w.heap.size+1 < w7.heap.size:=by omega
        simp only[getsL]at yL;have HX:=hdq hX;have HV:=hdq hv;have HP:=hdq hp;have GV:=hdq Hp;have Nq:=hdq (K7.alloc HL.out (.cells #[.int .u8 0,.string ⟨#[]⟩,.int .i64 0,.slice none 0 0,.int .i64 0] 175));have J1:=hdq (Bk.new w7 175 zeroEx).news;have HW:=hdq (show Fr NoT w7 (w7.alloc (.cells #[.int .u8 0,.string ⟨#[]⟩,.int .i64 0,.slice none 0 0,.int .i64 0] 175))from(Fr.refl _ _).alloc _);have YN:=K7.row.lt;clear hX hv hp hf Hp K7;dsimp only)
      |(refine zbl _ _ _ (by rfl) ?_
        go_simp;go_at_call 247
        with_reducible refine(Pv.out (w4.alloc (.cells #[.int .u8 0,.string ⟨#[]⟩,.int .i64 0,.slice none 0 0,.int .i64 0] 175)).drew (Fr.drew ((Fr.refl _ _).alloc _))).mono ?_
        intro e w7 hE;rcases hE.ways with⟨x,r3,A,c,hX,rfl,hv,hp,hf⟩|⟨c,a2,hX,rfl,hf⟩;case inr=>exact⟨rfl,by rw[KH.out,hX];exact za2 (Mm.fr.trans (PT.l ((Fr.drew ((Fr.refl C.T w4).alloc _)).trans hf)))⟩
        have Jc:Fr C.T w4 (w4.alloc (.cells zeroEx 175)).drew :=Fr.drew ((Fr.refl C.T w4).alloc _);have Hp:Fr C.T w4 w7:=Jc.trans hf;have K7:=Mm.next HL.out Hp hp;have yL:=K7.st.cell 2;have zn:=K7.st.frozen 2;have ML:=Hp.size;have Tv:w.heap.size+1 < w7.heap.size:=by omega
        simp only[getsL]at yL;have HX:=hdq hX;have HV:=hdq (hv.low (L':=w4.heap.size) Jc.size);have HP:=hdq hp;have GV:=hdq Hp;have Nq:=hdq K7;have J1:=hdq (((show Bk (w4.alloc (.cells zeroEx 175)).drew w4.heap.size 175 zeroEx from Bk.new _ _ _).fr hf (λe=>by have e:w4.heap.size=C.P:=e;have:=HL.1;omega))).news;have HW:=hdq (Fr.refl NoT w7);have YN:=K7.row.lt;clear hX hv hp hf Hp K7 Jc;dsimp only)
      |(refine step_append_lies _ (by rfl) _ _ _ (by rfl) (w.heap.size+2) 175 i0 (.agg zeroEx) 5 64 Tryz.underlying48 HI.1 HI.2.1 HI.2.2.1 HI.2.2.2 rfl (by decide) (.slice (some ⟨yr.heap.size,0,none⟩) 1 1) 1 (exC i A0 q0) (by rfl) Nq.row ⟨w7.heap.size,0,none⟩ 1 1 zeroEx.toList (by rfl) (by rfl) J1.out (by simp[zeroEx,Value.oneCell']) (by omega) (by decide) (by decide) (by rw[World.size_alloc];omega) (w7.heap.size+1) (World.size_alloc _ _) ?_
        intro gg cap w9 Hb Hd GG Hl;have VJ:=Hb.lt gg rfl;obtain⟨c0,c1,c2,c3,c4,cf⟩:=zcV (n:=1) Hb (by rfl);simp only[Nat.zero_mul,Nat.one_mul,Nat.zero_add,Nat.reduceAdd,Nat.reduceMul]at c0 c1 c2 c3 c4;have yO:=cf 5;have yP:=cf 6;have yQ:=cf 7;have yR:=cf 8;have yS:=cf 9;have Tw:w9.cell? ⟨w.heap.size+1,2,none⟩=some (.slice (some ⟨yr.heap.size,0,none⟩) 1 1):=(Hd.cell_far ⟨w.heap.size+1,2,none⟩ (by show w.heap.size+1 < _;rw[World.size_alloc];omega) (by simp[Value.ownBlock];omega)).trans (Nq.st.cell 2);have Tx:w9.frozen? ⟨w.heap.size+1,2,none⟩=false:=(Hd.frozen_far ⟨w.heap.size+1,2,none⟩ (by show w.heap.size+1 < _;rw[World.size_alloc];omega) (by simp[Value.ownBlock];omega)).trans (Nq.st.frozen 2);have Pf:¬w.heap.size+1=gg:=by omega
        have Fl:¬gg=w.heap.size+1:=by omega
        have HE:=hdq (λw10 Jn=>SetX.stepN (w10:=w10) (o0:=5) (o1:=6) (o2:=7) (o3:=8) (o4:=9) (m:=2) ⟨rfl,rfl,rfl,rfl,rfl,rfl⟩ HL.out (by unfold in8;omega) Sr.out Mm.out HV.out HP.out GV.out _ HW.out Hb Hd (GG.imp id λe=>by rw[World.size_alloc];exact e) Jn);clear Hb cf Hd GG)
      |(refine step_append_lies _ (by rfl) _ _ _ (by rfl) (w.heap.size+2) 175 i0 (.agg zeroEx) 5 64 Tryz.underlying48 HI.1 HI.2.1 HI.2.2.1 HI.2.2.2 rfl (by decide) (.slice (some ⟨yr.heap.size,0,none⟩) 1 1) 1 (exC i A0 q0) (by rfl) Nq.row ⟨w4.heap.size,0,none⟩ 1 1 zeroEx.toList (by rfl) (by rfl) J1.out (by simp[zeroEx,Value.oneCell']) (by omega) (by decide) (by decide) (by omega) w7.heap.size rfl ?_
        intro gg cap w9 Hb Hd GG Hl;have VJ:=Hb.lt gg rfl;obtain⟨c0,c1,c2,c3,c4,cf⟩:=zcV (n:=1) Hb (by rfl);simp only[Nat.zero_mul,Nat.one_mul,Nat.zero_add,Nat.reduceAdd,Nat.reduceMul]at c0 c1 c2 c3 c4;have yO:=cf 5;have yP:=cf 6;have yQ:=cf 7;have yR:=cf 8;have yS:=cf 9;have Tw:w9.cell? ⟨w.heap.size+1,2,none⟩=some (.slice (some ⟨yr.heap.size,0,none⟩) 1 1):=(Hd.cell_far ⟨w.heap.size+1,2,none⟩ (by show w.heap.size+1 < _;omega) (by simp[Value.ownBlock];omega)).trans (Nq.st.cell 2);have Tx:w9.frozen? ⟨w.heap.size+1,2,none⟩=false:=(Hd.frozen_far ⟨w.heap.size+1,2,none⟩ (by show w.heap.size+1 < _;omega) (by simp[Value.ownBlock];omega)).trans (Nq.st.frozen 2);have Pf:¬w.heap.size+1=gg:=by omega
        have Fl:¬gg=w.heap.size+1:=by omega
        have HE:=hdq (λw10 Jn=>SetX.stepN (w10:=w10) (o0:=5) (o1:=6) (o2:=7) (o3:=8) (o4:=9) (m:=2) ⟨rfl,rfl,rfl,rfl,rfl,rfl⟩ HL.out (by unfold in8;omega) Sr.out Mm.out HV.out HP.out GV.out _ HW.out Hb Hd GG Jn);clear Hb cf Hd GG))
    all_goals
     have J6:=KH.out;rw[HX.out]at J6;replace J6:R=endS ⟨3,nm,zbi ([i]++ [x]),.nil,.nil,.nil,a⟩ r3:=J6;have MH:=hdq J6;clear J6;go_wp2_with fail
     go_meet
     first
      |exact⟨_,_,_,hdq ⟨MH.out,HE _ (.inl (by with_reducible rfl))⟩⟩
      |exact⟨_,_,_,hdq ⟨MH.out,HE _ (.inr (by with_reducible rfl))⟩⟩
   case rest=>
    obtain⟨xs,pl,r3,KX⟩:=hcut;have MH:=hdq KX.1;have HY:=hdq KX.2;have Ty:=hdq (zas C [59] r3 d wc.heap.size _ HK.out (HY.pa.alloc (.cells #[.string ⟨#[59]⟩] 9)) (by decide) (by simp));have VK:=hdq (show Fr C.T wc (wc.alloc (.cells #[.string ⟨#[59]⟩] 9))from(Fr.refl _ _).alloc _);clear KX s2 z2;go_wp2_with fail;refine Ty.mono ?_;intro e yn hE;rcases hE with⟨ht,rfl,hp,hf⟩|⟨ht,rfl,hf⟩;rotate_left
    ·go_wp2_with fail;exact⟨rfl,by rw[MH.out,endS,ht];exact za2 (HY.fr.trans (PT.l (VK.trans hf)))⟩
    have hy:=HY.next HL.out (VK.trans hf) hp;have hb:=hy.st;have Gn:=hy.res;have b0:=hb.cell 0;have b1:=hb.cell 1;have b2:=hb.cell 2;have b3:=hb.cell 3;have b4:=hb.cell 4;have b5:=hb.cell 5;have b6:=hb.cell 6;have o0:=Gn.cell 0;have o1:=Gn.cell 1;have o2:=Gn.cell 2;have o3:=Gn.cell 3;have o4:=Gn.cell 4;have o5:=Gn.cell 5;have o6:=Gn.cell 6;have y0:=Gn.frozen 0;have y1:=Gn.frozen 1;have y2:=Gn.frozen 2;have y3:=Gn.frozen 3;have y4:=Gn.frozen 4;have y5:=Gn.frozen 5;have y6:=Gn.frozen 6;simp only[stC,zeroSt,List.getElem?_toArray,List.getElem?_cons_succ,List.getElem?_cons_zero]at b0 b1 b2 b3 b4 b5 b6 o0 o1 o2 o3 o4 o5 o6;have L5:=Gn.lt;have Tz:=hdq hy;have YO:=hdq ht;clear hy hb Gn ht hp hf;go_wp2_with fail;refine bodyPost_ret (v:= .agg #[.int .u8 xs.k,.string xs.nm,.slice pl.A xs.args.len pl.c,.slice pl.B xs.cond.len pl.q,.slice pl.D xs.body.len pl.e,.slice pl.E xs.els.len pl.f,.int .i64 xs.at_]) (by simp[results,Tryz.results206,go_sem,o0,o1,o2,o3,o4,o5,o6,L5]) rfl ?_;rw[MH.out,endS,YO.out];exact zfx HL.out Tz.hs Tz.pa Tz.fr rfl
theorem zl6 (C:Pcx)(n:Nat)(Gm:BlkC C n)(l:List Tk)(d:Nat)(w:World)(Gd:d+n=24)(hk:C.Ok)(h:PaAt C w l d):
  Calls Tryz.prog 206 #[.pointer (some ⟨C.P,0,none⟩)] w (EndV C d ziH (zaz (zag n) n l) w):=by
 by_cases h0:keyK (hdT l).text =0
 ·exact zl5 C n l d w _ rfl h0 Gd hk h
 ·exact zko C n Gm l d w _ rfl h0 Gd hk h
theorem PaAt.ended {C:Pcx}{w:World}{l:List Tk}{d:Nat}(h:PaAt C w l d)(hk:C.Ok):Ended l:=by
 obtain⟨j,q,e,_⟩:=h.at_;have hlen:=List.length_pos_iff.2 h.ne;rw[e,List.length_drop]at hlen;obtain⟨z,hz⟩:∃z,C.all[C.all.length - 1]?=some z:=⟨_,List.getElem?_eq_getElem (by omega)⟩;have hd:=hk.ends _ z hz (by omega);rcases List.eq_nil_or_concat l with rfl|⟨s,y,rfl⟩
 ·exact absurd rfl h.ne
 ·refine⟨s,y,by simp,λhl=>?_⟩;have hy:(C.all.drop j)[C.all.length - j - 1]?=some y:=by
   rw[<-e];have:C.all.length - j - 1=s.length:=by
    have:=congrArg List.length e;simp at this;omega
   rw[this];simp
  rw[List.getElem?_drop,show j+(C.all.length - j - 1)=C.all.length - 1 from by omega,hz]at hy;rw[<-Option.some.inj hy]at hl;exact hl hd
theorem zhF {C:Pcx}{d:Nat}{r:PR St}{W w':World}{e:Ending}(h:EndV C d ziH r W e w'):
  (∃(x:St)(l:List Tk)(p:Loc),r= .ok x l/\e= .returned (.agg #[.int .u8 x.k,.string x.nm,.slice p.A x.args.len p.c,.slice p.B x.cond.len p.q,.slice p.D x.body.len p.e,.slice p.E x.els.len p.f,.int .i64 x.at_])/\StS w' (New W.heap.size w') x p/\PaAt C w' l d/\Fr C.T W w')\/
   ∃c a,r= .err c a/\e= .panicked [{v:= .iface 161 (.agg #[.int .i64 c,.int .i64 a]),recovered:=false}]/\Fr C.T W w':=by
 unfold EndV at h;cases r with
 |err c a=>exact .inr ⟨c,a,rfl,h⟩
 |ok x l=>
  obtain⟨v,rfl,⟨p,rfl,hs⟩,hp,hf⟩:=h;exact .inl ⟨x,l,p,rfl,rfl,hs,hp,hf⟩
theorem zgn {w:World}{base:Nat}{e:TypeId}{size:Nat}{v:Value}{n:Nat}{xs:List Value}(h:w.ownsRow base e size v n xs):∃A c,v= .slice A n c/\n<=c/\c<=9223372036854775807:=by
 rcases h.2 with⟨rfl,rfl⟩|⟨g,cap,cur,rfl,_,_,h1,h2,_⟩
 ·exact⟨none,0,rfl,lrq _,by decide⟩
 ·exact⟨_,_,rfl,h1,by unfold maxLen at h2;omega⟩
theorem zgo {w:World}{base:Nat}{e:TypeId}{g cap n:Nat}{cs:List Value}(h:w.ownsRow base e 7 (.slice (some ⟨g,0,none⟩) (n+1) cap) (n+1) (cs++zeroSt.toList))(hl:cs.length=n*7):
  w.cell? ⟨g,n*7,none⟩=some (.int .u8 0)/\w.cell? ⟨g,n*7+1,none⟩=some (.string ⟨#[]⟩)/\w.cell? ⟨g,n*7+2,none⟩=some (.slice none 0 0)/\w.cell? ⟨g,n*7+3,none⟩=some (.slice none 0 0)/\w.cell? ⟨g,n*7+4,none⟩=some (.slice none 0 0)/\w.cell? ⟨g,n*7+5,none⟩=some (.slice none 0 0)/\w.cell? ⟨g,n*7+6,none⟩=some (.int .i64 0)/\∀j,w.frozen? ⟨g,j,none⟩=false:=by
 have key:∀j,j < 7->w.cell? ⟨g,n*7+j,none⟩=zeroSt.toList[j]?:=λj hj=>by
  rw[h.cellAt (n*7+j) (by omega),List.getElem?_append_right (by omega),hl,Nat.add_sub_cancel_left]
 exact⟨key 0 (by omega),key 1 (by omega),key 2 (by omega),key 3 (by omega),key 4 (by omega),key 5 (by omega),key 6 (by omega),λj=>h.frozenAt j⟩
theorem BlkX.stepN {C:Pcx}{w wr w7 w9:World}{d:Nat}{R:PR (List St)}{one:List Tk->PR St}{lb pb f:Nat}{v:Value}{acc:List St}{cs:List Value}{r r2:List Tk}{x:St}{p:Loc}{g cap m:Nat}(hm:m=acc.length)
  (hL:C.P < w.heap.size/\C.TB < w.heap.size/\C.W0.heap.size<=w.heap.size) (UJ:lb < w.heap.size) (Ry:lb≠C.P) (UK:lb≠C.TB) (Np:C.W0.heap.size<=lb)
  (hx:BlkX C w d R one lb pb v wr acc cs r) (hR:R=zbh one f (acc++ [x]) r2) (Rz:r2.length<=f) (Fj:r2.length < r.length)
  (hv:StS w7 (New wr.heap.size w7) x p) (hp:PaAt C w7 r2 d) (hf:Fr C.T wr w7) (W:World) (Lt:Fr NoT w7 W)
  (Hb:w9.ownsRow w.heap.size 51 7 (.slice (some ⟨g,0,none⟩) (m+1) cap) (m+1) (cs++zeroSt.toList))
  (hg:W.grownBy w9 v.ownBlock) (GG:v.ownBlock=some g\/g=W.heap.size) (w10:World)
  (Gv:w10=(((((((w9.setCell ⟨g,m*7,none⟩ (.int .u8 x.k)).setCell ⟨g,m*7+1,none⟩ (.string x.nm)).setCell ⟨g,m*7+2,none⟩ (.slice p.A x.args.len p.c)).setCell ⟨g,m*7+3,none⟩ (.slice p.B x.cond.len p.q)).setCell ⟨g,m*7+4,none⟩ (.slice p.D x.body.len p.e)).setCell ⟨g,m*7+5,none⟩ (.slice p.E x.els.len p.f)).setCell ⟨g,m*7+6,none⟩ (.int .i64 x.at_)).setCell ⟨lb,0,none⟩ (.slice (some ⟨g,0,none⟩) (m+1) cap)\/
   w10=(((((((w9.setCell ⟨lb,0,none⟩ (.slice (some ⟨g,0,none⟩) (m+1) cap)).setCell ⟨g,m*7,none⟩ (.int .u8 x.k)).setCell ⟨g,m*7+1,none⟩ (.string x.nm)).setCell ⟨g,m*7+2,none⟩ (.slice p.A x.args.len p.c)).setCell ⟨g,m*7+3,none⟩ (.slice p.B x.cond.len p.q)).setCell ⟨g,m*7+4,none⟩ (.slice p.D x.body.len p.e)).setCell ⟨g,m*7+5,none⟩ (.slice p.E x.els.len p.f)).setCell ⟨g,m*7+6,none⟩ (.int .i64 x.at_)):
  BlkX C w d R one lb pb (.slice (some ⟨g,0,none⟩) (acc.length+1) cap) w10 (acc++ [x]) (cs++stC x p) r2:=by
 subst hm;have KL:=Hb.lt g rfl;refine BlkX.step hL UJ Ry UK Np hx hR Rz Fj hv hp hf W Lt Hb hg GG w10 ?_;rcases Gv with h|h
 ·exact h
 ·have Gc:∀j,(⟨lb,0,none⟩:Addr).block ≠(⟨g,j,none⟩:Addr).block :=λj e=>by
   have e:lb=g:=e;omega
  rw[h,zar (Gc _),zar (Gc _),zar (Gc _),zar (Gc _),zar (Gc _),zar (Gc _),zar (Gc _)]
theorem BlkX.next {C:Pcx}{w wr w2:World}{d:Nat}{R:PR (List St)}{one:List Tk->PR St}{lb pb:Nat}{v:Value}{acc:List St}{cs:List Value}{r:List Tk}(hL:C.P < w.heap.size)(Ry:lb≠C.P)(hx:BlkX C w d R one lb pb v wr acc cs r)(hf:Fr C.T wr w2)(hp:PaAt C w2 r d):BlkX C w d R one lb pb v w2 acc cs r:=
 ⟨hx.eq,hx.lcell.fr hf Ry,zah hx.row hf hL,hx.rows.imp (hf.same λb hb=>⟨hb.2.1,λe=>by have e:b=C.P:=e;have:=hb.1;omega⟩) (λb hb=>⟨hb.1,ltq hb.2.1 hf.size,hb.2.2⟩),hx.few,hp,hx.fr.trans (PT.l hf)⟩
theorem zhG {C:Pcx}{w wr W:World}{d:Nat}{R:PR (List St)}{one:List Tk->PR St}{lb pb:Nat}{v v':Value}{acc zo:List St}{cs yf:List Value}{r r':List Tk}(h:BlkX C w d R one lb pb v' W zo yf r')(hx:BlkX C w d R one lb pb v wr acc cs r)(hl:r'.length < r.length):lenP C W < lenP C wr:=by
 rw[h.pa.lenP,hx.pa.lenP];exact hl
def BlbP (C:Pcx)(lb d:Nat)(r:PR (List St))(W:World)(e:Ending)(w':World):Prop:=
 match r with
 | .err c a=>e=zae c a/\Fr (PT C lb) W w'
 | .ok xs l=>e= .returned (.tuple #[])/\(∃v,Bk w' lb 25 #[v]/\StlV w' W.heap.size v xs)/\PaAt C w' l d/\Fr (PT C lb) W w'
theorem ziJ (C:Pcx)(n:Nat)(Gm:BlkC C n)(l:List Tk)(d pb lb:Nat)(w:World)(Gd:d+n=24)(hk:C.Ok)(h:PaAt C w l d)(Jh:Bk w pb 162 #[.pointer (some ⟨C.P,0,none⟩)])(KA:pb≠C.P)(Gq:pb≠lb)
  (TA:Bk w lb 25 #[.slice none 0 0]) (Ry:lb≠C.P) (UK:lb≠C.TB) (Np:C.W0.heap.size<=lb):
  Calls Tryz.prog 205 #[.pointer (some ⟨pb,0,none⟩),.pointer (some ⟨lb,0,none⟩)] w (BlbP C lb d (zbh (zaz (zag n) n) l.length [] l) w):=by
 obtain⟨i0,hi,Jb,Hy,FR⟩:=info_parts zov;have HI:=hdq (aiq hi (aiq Jb (aiq Hy FR)));obtain⟨R,hR⟩:=nmq (zbh (zaz (zag n) n) l.length [] l);rw[<-hR];have hL:=h.lts;have FB:l.length<=5000:=by
  obtain⟨j,q,e,_⟩:=h.at_;have:=hk.few;rw[e,List.length_drop];omega
 have UJ:=TA.lt;have K8:BlkX C w d R (zaz (zag n) n) lb pb (.slice none 0 0) w [] [] l:=⟨⟨_,hR,lrq _⟩,TA,World.ownsRow_nil _ _ _ _,rfl,by simpa using FB,h,Fr.refl _ _⟩;have Gi:=hdq K8;have HK:=hdq hk;have HL:=hdq hL;have Qq:=hdq (λ(l:List Tk)(W:World)(hW:PaAt C W l d)=>zl6 C n Gm l d W Gd hk hW);have LL:=hdq Jh;have kX:=hdq (λ(r:List Tk)(W:World)(hp:PaAt C W r d)=>hp.ended hk);have HN:=hdq (aiq KA (aiq Gq (aiq Ry (aiq UK (aiq Np UJ)))));clear hR h hk hL FB K8 Gm Jh TA hi Jb Hy FR KA Gq Ry UK Np UJ;go_enter Tryz.func205,Tryz.ntmps205;go_wp2_with fail;go_loopw [2] (λ_ wr=>∃(v:Value)(acc:List St)(cs:List Value)(r:List Tk),Hid (BlkX C w d R (zaz (zag n) n) lb pb v wr acc cs r)) (λ_ wr=>lenP C wr);case atStart=>exact⟨_, [], [],l,Gi⟩
 case round=>
  obtain⟨v,acc,cs,r,hx⟩:=hrel;have Fk:=(LL.fr hx.fr (λe=>by rcases e with e|e;exact HN.1 e;exact HN.2.1 e)).cell 0;simp only[List.getElem?_toArray,List.getElem?_cons_zero]at Fk;have HM:=hdq (za0 C [125] r d wr HK.out hx.pa (by decide));go_wp2_with fail;refine HM.mono ?_;rintro _ w2 ⟨rfl,hp,hf⟩;obtain⟨f,Gp,GU⟩:=hx.eq;have FO:0 < r.length:=List.length_pos_iff.2 hx.pa.ne;obtain⟨f,rfl⟩:∃f',f=f'+1:=⟨f - 1,by omega⟩;unfold zbh at Gp;cases hm:mayB [125] r;rotate_left
  ·rw[hm]at Gp hp;replace hp:PaAt C w2 r.tail d:=hp;replace Gp:R= .ok acc r.tail:=Gp;have Jo:=hdq Gp;have Hz:=zah hx.row hf HL.1;have NM:=hx.rows.imp (S':=λb=>w.heap.size<=b/\b < w2.heap.size) (hf.same λb hb=>⟨hb.2.1,λe=>by have e:b=C.P:=e;have:=hb.1;have:=HL.1;omega⟩) (λb hb=>⟨hb.1,ltq hb.2.1 hf.size⟩);have SO:=hdq (znK Hz NM (λb hb=>hb) (by have:=hx.few;omega));have TC:=hdq (hx.lcell.fr hf HN.2.2.1);have HP:=hdq hp;have Kc:=hdq (hx.fr.trans (PT.l hf));clear hp hf Gp Hz NM hm;go_wp2_with fail;go_end0;rw[Jo.out];exact⟨rfl,⟨_,TC.out,SO.out⟩,HP.out,Kc.out⟩
  ·rw[hm]at Gp hp;replace hp:PaAt C w2 r d:=hp;replace Gp:R=(zaz (zag n) n r).then λx r=>zbh (zaz (zag n) n) f (acc++ [x]) r:=Gp;have GC:=BlkX.next HL.1 HN.2.2.1 hx.out hf hp;obtain⟨pA,vc,rfl,YQ,vQ⟩:=zgn GC.row;obtain⟨m,LS⟩:=nmq acc.length;rw[<-LS]at GC;have P5:m<=5000:=by have:=GC.few;omega
   have GK:(0:Int)<=(m:Int):=by omega
   have Jq:(m:Int) < (m:Int)+1:=by omega
   have KG:(m:Int)+1<=9223372036854775807:=by omega
   have Qr:=GC.row;have FI:=GC.rows.len;have Fp:=GC.lcell.cell 0;have kY:=GC.lcell.frozen 0;have YR:=(LL.fr GC.fr (λe=>by rcases e with e|e;exact HN.1 e;exact HN.2.1 e)).cell 0;simp only[List.getElem?_toArray,List.getElem?_cons_zero]at Fp YR;rw[<-LS]at Qr FI;have Xe:=hdq (λW (hW:Fr NoT w2 W)=>Qq r W (hp.fr hW id id λ_ _=>id));have NQ:=hdq GC;have Jo:=hdq Gp;have MG:=hdq LS;have KJ:=hdq GU;have Nl:=hdq (kX r w2 hp);have LG:=hdq Qr;have Mh:=hdq FI;have HJ:w.heap.size<=w2.heap.size:=GC.fr.size;have kZ:=HN.2.2.2.2.2;have qa:=LL.lt;have qb:lb < w2.heap.size:=by omega
   have VL:pb < w2.heap.size:=by omega
   clear hp hf GC Gp LS GU Qr FI hm Fk;go_wp2_with fail
   go_region_law
    (first
     |(refine zbl _ _ _ (by rfl) ?_
       go_simp;go_at_call 206
       with_reducible refine(Xe.out w2.drew (Fr.drew (Fr.refl _ _))).mono ?_
       intro e w7 hE;rcases zhF hE with⟨x,r3,p,hX,rfl,hv,hp,hf⟩|⟨c,a2,hX,rfl,hf⟩;case inr=>exact⟨rfl,by rw[Jo.out,hX];exact⟨rfl,NQ.fr.trans (PT.l ((Fr.drew (Fr.refl C.T w2)).trans hf))⟩⟩
       have Hp:Fr C.T w2 w7:=(Fr.drew (Fr.refl C.T w2)).trans hf;have ML:=Hp.size;have YS:lb < w7.heap.size:=by omega
       have Nr:=(NQ.lcell.fr Hp HN.2.2.1).cell 0;have YT:=(NQ.lcell.fr Hp HN.2.2.1).frozen 0;simp only[List.getElem?_toArray,List.getElem?_cons_zero]at Nr;have GY:=(Hp.cell (p:=⟨pb,0,none⟩) VL HN.1).trans YR;have Jv:pb < w7.heap.size:=by omega
       have HX:=hdq hX;have HV:=hdq hv;have HP:=hdq hp;have GV:=hdq Hp;have Ss:=hdq ((zah LG.out Hp HL.1).alloc (.cells #[.int .u8 0,.string ⟨#[]⟩,.slice none 0 0,.slice none 0 0,.slice none 0 0,.slice none 0 0,.int .i64 0] 51));have J1:=hdq (Bk.new w7 51 zeroSt).news;have HW:=hdq (show Fr NoT w7 (w7.alloc (.cells #[.int .u8 0,.string ⟨#[]⟩,.slice none 0 0,.slice none 0 0,.slice none 0 0,.slice none 0 0,.int .i64 0] 51))from(Fr.refl _ _).alloc _);have TC:=hdq ((NQ.lcell.fr Hp HN.2.2.1).alloc (.cells #[.int .u8 0,.string ⟨#[]⟩,.slice none 0 0,.slice none 0 0,.slice none 0 0,.slice none 0 0,.int .i64 0] 51));clear hX hv hp hf Hp;dsimp only)
     |(refine zbl _ _ _ (by rfl) ?_
       go_simp;go_at_call 206
       with_reducible refine(Xe.out (w2.alloc (.cells #[.int .u8 0,.string ⟨#[]⟩,.slice none 0 0,.slice none 0 0,.slice none 0 0,.slice none 0 0,.int .i64 0] 51)).drew (Fr.drew ((Fr.refl _ _).alloc _))).mono ?_
       intro e w7 hE;rcases zhF hE with⟨x,r3,p,hX,rfl,hv,hp,hf⟩|⟨c,a2,hX,rfl,hf⟩;case inr=>exact⟨rfl,by rw[Jo.out,hX];exact⟨rfl,NQ.fr.trans (PT.l ((Fr.drew ((Fr.refl C.T w2).alloc _)).trans hf))⟩⟩
       have Jc:Fr C.T w2 (w2.alloc (.cells zeroSt 51)).drew :=Fr.drew ((Fr.refl C.T w2).alloc _);have Hp:Fr C.T w2 w7:=Jc.trans hf;have ML:=Hp.size;have YS:lb < w7.heap.size:=by omega
       have Nr:=(NQ.lcell.fr Hp HN.2.2.1).cell 0;have YT:=(NQ.lcell.fr Hp HN.2.2.1).frozen 0;simp only[List.getElem?_toArray,List.getElem?_cons_zero]at Nr;have GY:=(Hp.cell (p:=⟨pb,0,none⟩) VL HN.1).trans YR;have Jv:pb < w7.heap.size:=by omega
       have HX:=hdq hX;have HV:=hdq (hv.imp (S':=New w2.heap.size w7) (SameS.refl _ _) λb hb=>⟨leq9 Jc.size hb.1,hb.2⟩);have HP:=hdq hp;have GV:=hdq Hp;have Ss:=hdq (zah LG.out Hp HL.1);have J1:=hdq (((show Bk (w2.alloc (.cells zeroSt 51)).drew w2.heap.size 51 zeroSt from Bk.new _ _ _).fr hf (λe=>by have e:w2.heap.size=C.P:=e;have:=HL.1;omega))).news;have HW:=hdq (Fr.refl NoT w7);have TC:=hdq (NQ.lcell.fr Hp HN.2.2.1);clear hX hv hp hf Hp Jc;dsimp only)
     |(refine step_append_lies _ (by rfl) _ _ _ (by rfl) w.heap.size 51 i0 (.agg zeroSt) 7 128 Tryz.underlying25 HI.1 HI.2.1 HI.2.2.1 HI.2.2.2 rfl (by decide) (.slice pA m vc) m cs (by rfl) Ss.out ⟨w7.heap.size,0,none⟩ 1 1 zeroSt.toList (by rfl) (by rfl) J1.out (by simp[zeroSt,Value.oneCell']) (by omega) (by unfold maxLen;omega) (by omega) (by rw[World.size_alloc];omega) (w7.heap.size+1) (World.size_alloc _ _) ?_
       intro gg cap w9 Hb Hd GG Hl;have VJ:=Hb.lt gg rfl;obtain⟨c0,c1,c2,c3,c4,c5,c6,cf⟩:=zgo Hb Mh.out;have yO:=cf (m*7);have yP:=cf (m*7+1);have yQ:=cf (m*7+2);have yR:=cf (m*7+3);have yS:=cf (m*7+4);have zF:=cf (m*7+5);have zG:=cf (m*7+6);have K9:=Ss.lt;have RA:=(Hd.cell_far ⟨lb,0,none⟩ (by show lb < _;rw[World.size_alloc];omega) (λe=>by have:=(K9 lb e.symm).1;omega)).trans (TC.cell 0);have Ns:=(Hd.frozen_far ⟨lb,0,none⟩ (by show lb < _;rw[World.size_alloc];omega) (λe=>by have:=(K9 lb e.symm).1;omega)).trans (TC.frozen 0);simp only[List.getElem?_toArray,List.getElem?_cons_zero]at RA;have Pf:¬lb=gg:=by omega
       have Fl:¬gg=lb:=by omega
       have FO:=zcy (zbH n) n Nl.out HX.out;have HE:=hdq (λw10 Jn=>BlkX.stepN (w10:=w10) (f:=f) MG.out HL.out HN.2.2.2.2.2 HN.2.2.1 HN.2.2.2.1 HN.2.2.2.2.1 NQ.out (by rw[Jo.out,HX.out];rfl) (by have:=KJ.out;omega) FO HV.out HP.out GV.out _ HW.out Hb Hd (GG.imp id λe=>by rw[World.size_alloc];exact e) Jn);have Us:=hdq FO;have Yv:=hdq Hd.size;clear Hb cf Hd GG K9 FO)
     |(refine step_append_lies _ (by rfl) _ _ _ (by rfl) w.heap.size 51 i0 (.agg zeroSt) 7 128 Tryz.underlying25 HI.1 HI.2.1 HI.2.2.1 HI.2.2.2 rfl (by decide) (.slice pA m vc) m cs (by rfl) Ss.out ⟨w2.heap.size,0,none⟩ 1 1 zeroSt.toList (by rfl) (by rfl) J1.out (by simp[zeroSt,Value.oneCell']) (by omega) (by unfold maxLen;omega) (by omega) (by omega) w7.heap.size rfl ?_
       intro gg cap w9 Hb Hd GG Hl;have VJ:=Hb.lt gg rfl;obtain⟨c0,c1,c2,c3,c4,c5,c6,cf⟩:=zgo Hb Mh.out;have yO:=cf (m*7);have yP:=cf (m*7+1);have yQ:=cf (m*7+2);have yR:=cf (m*7+3);have yS:=cf (m*7+4);have zF:=cf (m*7+5);have zG:=cf (m*7+6);have K9:=Ss.lt;have RA:=(Hd.cell_far ⟨lb,0,none⟩ (by show lb < _;omega) (λe=>by have:=(K9 lb e.symm).1;omega)).trans (TC.cell 0);have Ns:=(Hd.frozen_far ⟨lb,0,none⟩ (by show lb < _;omega) (λe=>by have:=(K9 lb e.symm).1;omega)).trans (TC.frozen 0);simp only[List.getElem?_toArray,List.getElem?_cons_zero]at RA;have Pf:¬lb=gg:=by omega
       have Fl:¬gg=lb:=by omega
       have FO:=zcy (zbH n) n Nl.out HX.out;have HE:=hdq (λw10 Jn=>BlkX.stepN (w10:=w10) (f:=f) MG.out HL.out HN.2.2.2.2.2 HN.2.2.1 HN.2.2.2.1 HN.2.2.2.2.1 NQ.out (by rw[Jo.out,HX.out];rfl) (by have:=KJ.out;omega) FO HV.out HP.out GV.out _ HW.out Hb Hd GG Jn);have Us:=hdq FO;have Yv:=hdq Hd.size;clear Hb cf Hd GG K9 FO))
   all_goals
    clear c0 c1 c2 c3 c4 c5 c6 yO yP yQ yR yS zF zG;go_wp2_with fail;go_roundw;case rel=>
     first
      |exact⟨_,_,_,_,hdq (HE _ (.inl (by with_reducible rfl)))⟩
      |exact⟨_,_,_,_,hdq (HE _ (.inr (by with_reducible rfl)))⟩
    case measure=>
     first
      |exact zhG (HE _ (.inl (by with_reducible rfl))) hx.out Us.out
      |exact zhG (HE _ (.inr (by with_reducible rfl))) hx.out Us.out
