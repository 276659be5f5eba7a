/- parse. -/
import Derived.Test.YtfomomaomggpbaaGreatDoorJnPf
import Derived.Deep.DeepCutAuto
set_option linter.all false
set_option maxHeartbeats 12800000
set_option maxRecDepth 100000
namespace Go.Proofs.YtfomomaomggpbaaGreatDoor
open Go.RowKit Go.Shelf Go.Maps
def begV (k:Int)(g:Nat):Value:= .agg #[.int .u8 k,.func (.func g) #[] #[]]
def KwM (w:World)(b n:Nat)(tab:List (List UInt8×Value)):Prop:=
 ∃D,w.ownsMap Tryz.prog 9 zdI b n D/\∀t:List UInt8,Maps.has D (.string t)=(tab.lookup t).isSome /\(∀v,tab.lookup t=some v->∀z,D.atKey (.string t) z= .held v)/\(tab.lookup t=none->∀z,D.atKey (.string t) z=z)
theorem KwM.made (w:World):KwM (w.alloc (.map #[] 0)) w.heap.size 0 []:=⟨_,World.ownsMap_made _ _ _ _,λt=>⟨rfl,λv h=>by simp at h,λ_ z=>rfl⟩⟩
theorem KwM.put {w:World}{b n:Nat}{tab:List (List UInt8×Value)}(h:KwM w b n tab){t:List UInt8}(ht:t.length<=maxLen)(v:Value)(hn:n < maxLen):
  ∃w',(Instr.mapUpdate 326 (.map (some b)) (.string ⟨t.toArray⟩) v).run Tryz.prog w= .ok () w'/\KwM w' b (n+1) ((t,v)::tab)/\w.grownBy w' (some b):=by
 obtain⟨D,Ha,hD⟩:=h;obtain⟨w',GL,Ls,hg⟩:=Ha.update strKey Tryz.underlying326 hn (keyS ht) (val:=v) (d:= .held v) (ps:= []) rfl;refine⟨w',GL,⟨_,Ls,λx=>?_⟩,hg⟩;have kx:WideAt.IsKeyLit (.string t):=strKey.key (keyS ht);by_cases e:x=t
 ·subst e;refine⟨by rw[has_put_same Ha.isMap kx];simp,λu hu z=>?_,λhu=>by simp at hu⟩;rw[atKey_put_same Ha.isMap kx];simp at hu;rw[hu]
 ·have e1:(x==t)=false:=by simpa using e
  have e2:(Lit.string x)≠ .string t:=λh=>e (by simpa using h);refine⟨by rw[has_put_other e2,(hD x).1];simp[List.lookup,e1],λu hu z=>?_,λhu z=>?_⟩
  ·rw[atKey_put_other e2];exact(hD x).2.1 u (by simpa[List.lookup,e1]using hu) z
  ·rw[atKey_put_other e2];exact(hD x).2.2 (by simpa[List.lookup,e1]using hu) z
theorem KwM.kept {w w':World}{b n:Nat}{tab:List (List UInt8×Value)}(h:KwM w b n tab){row:Option Nat}(hg:w.grownBy w' row)(Gh:some b≠row):KwM w' b n tab:=by
 obtain⟨D,Ha,hD⟩:=h;exact⟨D,Ha.kept hg Gh,hD⟩
theorem zkx (w:World):(zeroValue 324).run Tryz.prog w= .ok (.agg #[.int .u8 0,.nilFunc]) w:=by kernel_rfl
def zky:Value:= .agg #[.int .u8 0,.nilFunc]
theorem KwM.look {w:World}{b n:Nat}{tab:List (List UInt8×Value)}(h:KwM w b n tab){t:List UInt8}(ht:t.length<=maxLen):
  (Instr.lookup 326 (.map (some b)) (.string ⟨t.toArray⟩) true).run Tryz.prog w= .ok (.tuple #[(tab.lookup t).getD zky,.bool (tab.lookup t).isSome]) w:=by
 obtain⟨D,Ha,hD⟩:=h;obtain⟨v,ps,GL,hv⟩:=Ha.look_ok strKey Tryz.underlying326 (zkx w) (zd:= .held _) (zp:= []) rfl (keyS ht);rw[(hD t).1]at GL;rw[GL];cases hl:tab.lookup t with
 |none=>
  rw[(hD t).2.2 hl]at hv;simp only[zdI,Option.some.injEq,Prod.mk.injEq,DataW.held.injEq]at hv;rw[hv.1];rfl
 |some u=>
  rw[(hD t).2.1 u hl]at hv;simp only[zdI,Option.some.injEq,Prod.mk.injEq,DataW.held.injEq]at hv;rw[hv.1];rfl
def kwTab:List (List UInt8×Value):= [([99,97,108,108],begV 9 (kwF 9)),([119,104,105,108,101],begV 8 (kwF 8)),([105,102],begV 7 (kwF 7)),([97,115,115,101,114,116],begV 6 (kwF 6)),([97,115,115,117,109,101],begV 5 (kwF 5)),([105,110,112,117,116],begV 4 (kwF 4)),([115,107,105,112],begV 1 (kwF 1))]
theorem zkz (t:List UInt8):kwTab.lookup t=if keyK t=0 then none else some (begV (keyK t) (kwF (keyK t))):=by
 unfold keyK kwTab;by_cases h1:t= [115,107,105,112]
 ·subst h1;rfl
 by_cases h2:t= [105,110,112,117,116]
 ·subst h2;rfl
 by_cases h3:t= [97,115,115,117,109,101]
 ·subst h3;rfl
 by_cases h4:t= [97,115,115,101,114,116]
 ·subst h4;rfl
 by_cases h5:t= [105,102]
 ·subst h5;rfl
 by_cases h6:t= [119,104,105,108,101]
 ·subst h6;rfl
 by_cases h7:t= [99,97,108,108]
 ·subst h7;rfl
 have e1:(t== [115,107,105,112])=false:=by simpa using h1
 have e2:(t== [105,110,112,117,116])=false:=by simpa using h2
 have e3:(t== [97,115,115,117,109,101])=false:=by simpa using h3
 have e4:(t== [97,115,115,101,114,116])=false:=by simpa using h4
 have e5:(t== [105,102])=false:=by simpa using h5
 have e6:(t== [119,104,105,108,101])=false:=by simpa using h6
 have e7:(t== [99,97,108,108])=false:=by simpa using h7
 simp only[List.lookup,e1,e2,e3,e4,e5,e6,e7,if_neg h1,if_neg h2,if_neg h3,if_neg h4,if_neg h5,if_neg h6,if_neg h7];rfl
theorem zby (w:World):Calls Tryz.prog 245 #[] w λe w'=>∃b,e= .returned (.map (some b))/\w.heap.size<=b/\KwM w' b 7 kwTab/\Fr NoT w w':=by
 have KN:= @run_makeMap Tryz.prog;obtain⟨w1,u1,k1,g1⟩:=(KwM.made w).put (t:= [115,107,105,112]) (by decide) (begV 1 (kwF 1)) (by decide);obtain⟨w2,u2,k2,g2⟩:=k1.put (t:= [105,110,112,117,116]) (by decide) (begV 4 (kwF 4)) (by decide);obtain⟨w3,u3,k3,g3⟩:=k2.put (t:= [97,115,115,117,109,101]) (by decide) (begV 5 (kwF 5)) (by decide);obtain⟨w4,u4,k4,g4⟩:=k3.put (t:= [97,115,115,101,114,116]) (by decide) (begV 6 (kwF 6)) (by decide);obtain⟨w5,u5,k5,g5⟩:=k4.put (t:= [105,102]) (by decide) (begV 7 (kwF 7)) (by decide);obtain⟨w6,u6,k6,g6⟩:=k5.put (t:= [119,104,105,108,101]) (by decide) (begV 8 (kwF 8)) (by decide);obtain⟨w7,u7,k7,g7⟩:=k6.put (t:= [99,97,108,108]) (by decide) (begV 9 (kwF 9)) (by decide);have hf:Fr NoT w w7:=by
  have h0:Fr (λb=>b=w.heap.size) w w7:=(((((((Fr.refl _ w).alloc (.map #[] 0)).trans (Fr.grown g1 λg e _=>(Option.some.inj e).symm)).trans (Fr.grown g2 λg e _=>(Option.some.inj e).symm)).trans (Fr.grown g3 λg e _=>(Option.some.inj e).symm)).trans (Fr.grown g4 λg e _=>(Option.some.inj e).symm)).trans (Fr.grown g5 λg e _=>(Option.some.inj e).symm)).trans (Fr.grown g6 λg e _=>(Option.some.inj e).symm) |>.trans (Fr.grown g7 λg e _=>(Option.some.inj e).symm)
  exact h0.mono λi hi e=>absurd hi (by have e:i=w.heap.size:=e;omega)
 have HK:=aA k7;have HF:=aA hf;simp only[begV,show kwF 1=277 from by rfl,show kwF 4=278 from by rfl,show kwF 5=279 from by rfl,show kwF 6=279 from by rfl,show kwF 7=280 from by rfl,show kwF 8=281 from by rfl,show kwF 9=282 from by rfl]at u1 u2 u3 u4 u5 u6 u7;clear k1 k2 k3 k4 k5 k6 k7 g1 g2 g3 g4 g5 g6 g7 hf;go_enter Tryz.func245,Tryz.ntmps245;go_wp2_with fail;go_ret;exact⟨w.heap.size,rfl,aL _,HK.out,HF.out⟩
open Go.RowKit Go.Shelf
def zi7 (w:World)(L:Nat)(v:Value)(x:St):Prop:=∃p,v= .agg (stC x p).toArray /\StS w (New L w) x p
structure StmR (C:Pcx)(w:World)(rb sb gb:Nat)(l:List Tk)(d:Nat)(x:St)(u0 u1:Value)(W:World):Prop where
 pa:PaAt C W l d
 st:StAt W sb (w.heap.size+2) x
 raw:Bk W sb 51 #[.int .u8 0,.string ⟨#[]⟩,.slice none 0 0,.slice none 0 0,.slice none 0 0,.slice none 0 0,.int .i64 x.at_]
 beg:Bk W gb 324 #[u0,u1]
 res:Bk W rb 51 #[.int .u8 0,.string ⟨#[]⟩,.slice none 0 0,.slice none 0 0,.slice none 0 0,.slice none 0 0,.int .i64 0]
 fr:Fr NoT w W
theorem zff (w w1:World)(a:Int)(hw:w1=(w.alloc (.cells zeroSt 51)).alloc (.cells #[.int .u8 0,.string ⟨#[]⟩,.slice none 0 0,.slice none 0 0,.slice none 0 0,.slice none 0 0,.int .i64 a] 51)):
  Bk w1 w.heap.size 51 zeroSt/\Bk w1 (w.heap.size+1) 51 #[.int .u8 0,.string ⟨#[]⟩,.slice none 0 0,.slice none 0 0,.slice none 0 0,.slice none 0 0,.int .i64 a]/\Fr NoT w w1:=by
 subst hw;exact⟨(Bk.new _ _ _).alloc _,Bk.new_at _ _ _ (by simp),(aH.alloc _).alloc _⟩
theorem zie {w W:World}{b:Nat}{l:List Tk}{k:Int}{tx:ByteArray}(KV:k=keyK (hdT l).text)(Mh:tx=txt (hdT l))(Ph:(hdT l).text.length <=4096)(h:KwM W b 7 kwTab):
  (Instr.lookup 326 (.map (some b)) (.string tx) true).run Tryz.prog W= .ok (.tuple #[(if k=0 then zky else begV k (kwF k)),.bool (!(k==0))]) W:=by
 have h1:=h.look (t:=(hdT l).text) (by unfold maxLen;omega);rw[zkz,<-KV]at h1;rw[Mh];unfold txt;rw[h1];by_cases h0:k=0
 ·subst h0;rfl
 ·have e:(k==0)=false:=by simpa using h0
  rw[if_neg h0,if_neg h0,e];rfl
theorem znZ {C:Pcx}{w w1 wk w9:World}{l:List Tk}{d:Nat}{a:Int}{u0 u1:Value}(hL:C.P < w.heap.size/\C.TB < w.heap.size/\C.W0.heap.size<=w.heap.size)(ha:in64 a)(h:PaAt C w l d)
  (Gz:Bk w1 w.heap.size 51 zeroSt) (G2:Bk w1 (w.heap.size+1) 51 #[.int .u8 0,.string ⟨#[]⟩,.slice none 0 0,.slice none 0 0,.slice none 0 0,.slice none 0 0,.int .i64 a]) (hz:w1.heap.size=w.heap.size+2) (Hd:Fr NoT w w1) (JN:Fr NoT w1 wk)
  (h9:w9=wk.alloc (.cells #[u0,u1] 324)):
  StmR C w w.heap.size (w.heap.size+1) wk.heap.size l d ⟨0,noB,.nil,.nil,.nil,.nil,a⟩ u0 u1 w9:=by
 have vk:=JN.size;have FU:Fr NoT wk w9:=by rw[h9];exact aH.alloc _
 have Fl:Fr NoT w w9:=(Hd.trans JN).trans FU;refine⟨h.fr Fl id id λ_ _=>id,StAt.new (by unfold in8;omega) ha ((G2.fr0 JN).fr0 FU),(G2.fr0 JN).fr0 FU,?_,(Gz.fr0 JN).fr0 FU,Fl⟩;rw[h9];exact Bk.new _ _ _
theorem zn0 {C:Pcx}{w w1 wa wk w9:World}{l:List Tk}{d:Nat}{a:Int}{u0 u1:Value}(hL:C.P < w.heap.size/\C.TB < w.heap.size/\C.W0.heap.size<=w.heap.size)(ha:in64 a)(h:PaAt C w l d)
  (Gz:Bk w1 w.heap.size 51 zeroSt) (G2:Bk w1 (w.heap.size+1) 51 #[.int .u8 0,.string ⟨#[]⟩,.slice none 0 0,.slice none 0 0,.slice none 0 0,.slice none 0 0,.int .i64 a]) (hz:w1.heap.size=w.heap.size+2) (Hd:Fr NoT w w1) {z0 z1:Value} (FU:Fr NoT w1 wa) (Nk:Bk wa w1.heap.size 324 #[z0,z1]) (JN:Fr NoT wa wk)
  (h9:w9=(wk.setCell ⟨w1.heap.size,0,none⟩ u0).setCell ⟨w1.heap.size,1,none⟩ u1):
  StmR C w w.heap.size (w.heap.size+1) w1.heap.size l d ⟨0,noB,.nil,.nil,.nil,.nil,a⟩ u0 u1 w9:=by
 have vk:=JN.size;have Kb:Fr (λb=>b=w1.heap.size) wk w9:=by rw[h9];exact aJ (aJ aH)
 have Fl:Fr NoT w w9:=by
  rw[h9];exact Fr.high (Fr.high ((Hd.trans FU).trans JN) (by omega) _ _) (by omega) _ _
 have Wb:=((G2.fr0 FU).fr0 JN).fr Kb (λe=>by have e:w.heap.size+1=w1.heap.size:=e;omega);refine⟨h.fr Fl id id λ_ _=>id,StAt.new (by unfold in8;omega) ha Wb,Wb,?_,(((Gz.fr0 FU).fr0 JN).fr Kb λe=>?_),Fl⟩
 ·have:=((Nk.fr0 JN).set_ 0 u0).set_ 1 u1;rw[h9];simpa using this
 ·have e:w.heap.size=w1.heap.size:=e;omega
theorem zfN {C:Pcx}{w xt xw:World}{x:St}{p:Loc}{r:List Tk}{d:Nat}(hL:C.P < w.heap.size/\C.TB < w.heap.size/\C.W0.heap.size<=w.heap.size)(hs:StS xt (λb=>w.heap.size+2<=b/\b < xt.heap.size/\b≠w.heap.size+1) x p)(hp:PaAt C xt r d)(hf:Fr (PT C (w.heap.size+1)) w xt)
  (vm:xw=((((((xt.setCell ⟨w.heap.size,0,none⟩ (.int .u8 x.k)).setCell ⟨w.heap.size,1,none⟩ (.string x.nm)).setCell ⟨w.heap.size,2,none⟩ (.slice p.A x.args.len p.c)).setCell ⟨w.heap.size,3,none⟩ (.slice p.B x.cond.len p.q)).setCell ⟨w.heap.size,4,none⟩ (.slice p.D x.body.len p.e)).setCell ⟨w.heap.size,5,none⟩ (.slice p.E x.els.len p.f)).setCell ⟨w.heap.size,6,none⟩ (.int .i64 x.at_)):
  EndV C d zi7 (.ok x r) w (.returned (.agg #[.int .u8 x.k,.string x.nm,.slice p.A x.args.len p.c,.slice p.B x.cond.len p.q,.slice p.D x.body.len p.e,.slice p.E x.els.len p.f,.int .i64 x.at_])) xw:=by
 have G6:Fr (λb=>b=w.heap.size) xt xw:=by rw[vm];exact aJ (aJ (aJ (aJ (aJ (aJ (aJ aH))))))
 have Hx:=hf.size;refine⟨_,rfl,⟨p,rfl,hs.imp (G6.same λb hb=>⟨hb.2.1,λe=>?_⟩) λb hb=>⟨by have:=hb.1;omega,by have:=hb.2.1;have:=G6.size;omega⟩⟩,hp.fr G6 (λe=>?_) (λe=>?_) (λi hi e=>?_),?_⟩
 ·have e:b=w.heap.size:=e;have:=hb.1;omega
 ·have e:C.P=w.heap.size:=e;omega
 ·have e:C.TB=w.heap.size:=e;omega
 ·have e:i=w.heap.size:=e;omega
 ·refine((hf.mono (T':=λb=>b=C.P\/w.heap.size<=b) λi _ h=>?_).trans (G6.mono λi _ h=>?_)).mono λi hi e=>?_
  ·rcases h with h|h
   ·exact .inl h
   ·exact .inr (by omega)
  ·have h:i=w.heap.size:=h;exact .inr (by omega)
  ·rcases e with e|e
   ·exact e
   ·omega
theorem za3 {C:Pcx}{w xt:World}{d:Nat}{c a:Int}(hf:Fr (PT C (w.heap.size+1)) w xt):EndV C d zi7 (.err c a) w (zaf c a) xt:=
 ⟨rfl,hf.mono λi hi e=>by
  rcases e with e|e
  ·exact e
  ·omega⟩
theorem zkA (C:Pcx)(n:Nat)(Hr:BlkC C n)(l:List Tk)(d:Nat)(w:World)(k:Int)(KV:k=keyK (hdT l).text)(GI:k≠0)(Ga:d+n=24)(hk:C.Ok)(h:PaAt C w l d):
  Calls Tryz.prog 206 #[.pointer (some ⟨C.P,0,none⟩)] w (EndV C d zi7 (zaz (zag n) n l) w):=by
 obtain⟨R,hR⟩:=aF (zaz (zag n) n l);rw[<-hR];have HR:=aA hR;have hL:=h.lts;obtain⟨j,cap,m,GW,Jn,hl,F9,G7,hb,p0,p1,f0,f1,t0,t1,t2,ltP,ltT⟩:=h.cells;have JY:m<=9223372036854775807:=by omega
 have JU:(0:Int) < (m:Int):=by omega
 have Ph:(hdT l).text.length <=4096:=by
  have hd:=zaH hl h.ne;exact hk.len _ (List.mem_of_getElem? hd.1)
 obtain⟨a,ha⟩:∃a:Int,a=((hdT l).at_ :Int):=⟨_,rfl⟩;obtain⟨tx,Mh⟩:=aF (txt (hdT l));have Kg:in64 a:=by rw[ha];exact zbf hk h
 rw[<-ha]at t2;rw[<-Mh]at t1;have HA:=aA ha;obtain⟨w1,Hc⟩:=aF ((w.alloc (.cells zeroSt 51)).alloc (.cells #[.int .u8 0,.string ⟨#[]⟩,.slice none 0 0,.slice none 0 0,.slice none 0 0,.slice none 0 0,.int .i64 a] 51));obtain⟨Gz,G2,Hd⟩:=zff w w1 a Hc;have hz:w1.heap.size=w.heap.size+2:=by rw[Hc];simp
 have S2:(hdT l).live :=zbb (by rw[<-KV];exact GI);have vn:=aA S2;have e1:(!(k==0))=true:=by simpa using GI
 have J5:∀(W:World)(b:Nat),KwM W b 7 kwTab->(Instr.lookup 326 (.map (some b)) (.string tx) true).run Tryz.prog W= .ok (.tuple #[.agg #[.int .u8 k,.func (.func (kwF k)) #[] #[]],.bool true]) W:=λW b hW=>by
  have:=zie (w:=w) KV Mh Ph hW;rw[if_neg GI,e1]at this;exact this
 have xK:=(Hd.cell (p:=⟨C.P,0,none⟩) ltP id).trans p0;have t11:=(Hd.cell (p:=⟨C.TB,j*3+1,none⟩) ltT id).trans t1;have QG:C.P < w1.heap.size:=by omega
 have QH:C.TB < w1.heap.size:=by omega
 have TQ:=aA J5;have S3:=aA KV;have Nf:=aA GI;have MT:=aA Ga;have Zn:=aA (λ(wk w9:World)(u0 u1:Value)(JN:Fr NoT w1 wk) h9=>znZ (C:=C) (u0:=u0) (u1:=u1) (w9:=w9) hL Kg h Gz G2 hz Hd JN h9);have Mx:=aA (λ(wa wk w9:World)(z0 z1 u0 u1:Value)(FU:Fr NoT w1 wa) Nk (JN:Fr NoT wa wk) h9=>zn0 (C:=C) (u0:=u0) (u1:=u1) (z0:=z0) (z1:=z1) (w9:=w9) hL Kg h Gz G2 hz Hd FU Nk JN h9);have Ge:=aA Hc;have HZ:=aA hz;have F4:=aA Hr;have HK:=aA hk;have HL:=aA hL;have Hl:=aA Hd;clear hR hb GW hl ha Mh KV GI e1 J5 Hc Gz G2 hz Hd h Hr hk hL S2 Ph Kg;go_enter Tryz.func206,Tryz.ntmps206;go_wp2_with fail;rw[show(w.alloc (.cells #[.int .u8 0,.string ⟨#[]⟩,.slice none 0 0,.slice none 0 0,.slice none 0 0,.slice none 0 0,.int .i64 0] 51)).alloc (.cells #[.int .u8 0,.string ⟨#[]⟩,.slice none 0 0,.slice none 0 0,.slice none 0 0,.slice none 0 0,.int .i64 a] 51)=w1 from Ge.symm];clear p0 t1 t2 p1 f0 f1 t0
 go_region_held2 (λW'=>W'.cell? ⟨C.P,0,none⟩=some (.slice (some ⟨C.TB,j*3,none⟩) m cap)/\W'.cell? ⟨C.TB,j*3+1,none⟩=some (.string tx))
  (first
   |(refine⟨?_,?_⟩<;>with_reducible assumption)
   |(refine⟨(Fr.cell (T:=λb=>b=gb) (w:=wk) ?_ Vi Vj).trans Vk,(Fr.cell (T:=λb=>b=gb) (w:=wk) ?_ Vl Vm).trans Mu⟩
     all_goals(subst Nl;repeat(first|exact aH|refine Fr.alloc ?_ _|refine Fr.own ?_ _ _)))
   |(refine⟨(Fr.cell (T:=NoT) (w:=w1) ?_ QG id).trans xK,(Fr.cell (T:=NoT) (w:=w1) ?_ QH id).trans t11⟩
     all_goals(repeat(first|exact aH|refine Fr.alloc ?_ _|refine Fr.drew ?_))))
  (first
   |(go_at_call 245
     refine(zby w1.drew).mono ?_;rintro _ wk ⟨kb,rfl,KD,KY,JN⟩;have Fw:=TQ _ _ KY;have FM:=TQ _ _ (KY.kept (World.grownBy_alloc wk (.cells #[.int .u8 0,.nilFunc] 324) none) (by simp));have FX:Fr NoT w1 wk:=(Fr.drew aH).trans JN;have Vk:=(FX.cell (p:=⟨C.P,0,none⟩) QG id).trans xK;have Mu:=(FX.cell (p:=⟨C.TB,j*3+1,none⟩) QH id).trans t11;have Vi:=aM QG FX.size;have Vl:=aM QH FX.size;obtain⟨gb,Nl⟩:=aF wk.heap.size;have Vj:¬C.P=gb:=by omega
     have Vm:¬C.TB=gb:=by omega
     have HE:=aA (λw9 h9=>Zn wk w9 (.int .u8 k) (.func (.func (kwF k)) #[] #[]) FX h9);clear KY JN)
   |(go_at_call 245
     refine(zby (w1.alloc (.cells #[.int .u8 0,.nilFunc] 324)).drew).mono ?_;rintro _ wk ⟨kb,rfl,KD,KY,JN⟩;have Fw:=TQ _ _ KY;have FU:Fr NoT w1 (w1.alloc (.cells #[.int .u8 0,.nilFunc] 324)).drew :=Fr.drew (aH.alloc _);have Nk:Bk (w1.alloc (.cells #[.int .u8 0,.nilFunc] 324)).drew w1.heap.size 324 #[.int .u8 0,.nilFunc]:=Bk.new _ _ _;have FX:Fr NoT w1 wk:=FU.trans JN;have Vk:=(FX.cell (p:=⟨C.P,0,none⟩) QG id).trans xK;have Mu:=(FX.cell (p:=⟨C.TB,j*3+1,none⟩) QH id).trans t11;have Vi:=aM QG FX.size;have Vl:=aM QH FX.size;obtain⟨gb,Nl⟩:=aF w1.heap.size;have Vj:¬C.P=gb:=by omega
     have Vm:¬C.TB=gb:=by omega
     have Hr:=Nk.fr0 JN;have q0:=Hr.cell 0;have q1:=Hr.cell 1;have g0:=Hr.frozen 0;have g1:=Hr.frozen 1;have GY:=Hr.lt;simp only[aD]at q0 q1;have HE:=aA (λw9 h9=>Mx _ wk w9 (.int .u8 0) .nilFunc (.int .u8 k) (.func (.func (kwF k)) #[] #[]) FU Nk JN h9);clear KY JN Nk FU Hr))
 all_goals
  have hS:=HE _ rfl;have JG:=zbl C l d _ HK.out hS.pa vn.out;unfold pP zd5 tkV at JG;have HS:=aA hS;have Mw:=aA JG;have HG:=aA Nl;have Wc:w.heap.size+2<=gb:=by rw[Nl];have:=FX.size;have:=HZ.out;omega
  clear Fw Vk Mu Vi Vl Vj Vm hS JG HE Nl;try clear FM
  try clear q0 q1 g0 g1 GY
  go_wp2_with fail;refine Mw.mono ?_;rintro e w10 ⟨rfl,hp,hf⟩;have hL:=HL.out;have Po:=HS.beg.fr hf (λe=>by have e:_=C.P:=e;have:=HG.out;omega);rw[<-HG.out]at Po ⊢;have Gu:=HS.st.fr hf (by omega) (by omega);have Gq:w.heap.size+1 < w10.heap.size:=by
   obtain⟨q,hq,_⟩:=Gu;exact hq.lt
  have jH:=HS.res.fr hf (λe=>by have e:w.heap.size=C.P:=e;omega);have Fl:=HS.fr.any.trans hf;obtain⟨w11,Kh⟩:=aF (w10.setCell ⟨w.heap.size+1,0,none⟩ (.int .u8 k));have TR:=Gu.kind (k:=k) (by rcases zfe (hdT l).text with h|h|h|h|h|h|h|h<;>unfold in8<;>have:=S3.out<;>omega);have Kb:Fr (λb=>b=w.heap.size+1) w10 w11:=by rw[Kh];exact aJ aH
  rw[<-Kh]at TR;have Gz:=(Po.fr Kb (λe=>by have e:gb=w.heap.size+1:=e;omega)).cell 1;have Gd:=Po.cell 0;have Ks:PaAt C w11 l.tail d:=hp.fr Kb (λe=>by have e:C.P=w.heap.size+1:=e;omega) (λe=>by have e:C.TB=w.heap.size+1:=e;omega) (λi hi e=>by have e:i=w.heap.size+1:=e;omega);have Vn:=zmK C n F4.out (w.heap.size+1) (w.heap.size+2) l d w11 k a S3.out Nf.out HA.out MT.out HK.out Ks TR (by omega) (by omega) (by omega) (by omega) (by have:=Kb.size;omega);obtain⟨q,hq,_⟩:=Gu;have s0:=hq.cell 0;have z0:=hq.frozen 0;simp only[stC,List.getElem?_toArray,List.getElem?_cons_succ,List.getElem?_cons_zero]at s0 Gd Gz;rw[Kh]at Vn Gz;have vo:=aA Vn;have vp:=aA (jH.fr Kb (λe=>by have e:w.heap.size=w.heap.size+1:=e;omega));have PU:=aA ((PT.l Fl (rb:=w.heap.size+1)).trans (Kb.mono λi _ h=> .inr h));have RX:=aA Kh;have hent:=zkw k;unfold Enters at hent;clear hp hf Po jH Fl TR Ks Vn Kh Kb hL hq;go_wp2_with fail;refine vo.mono ?_;intro e xt hE;have vq:=HL.out;unfold MetP at hE;cases hx:zaz (zag n) n l with
  |err c a=>
   rw[hx]at hE;obtain⟨rfl,hf⟩:=hE;rw[<-RX.out]at hf;have Ke:=aA (PU.trans hf);unfold zaf;clear hf;go_wp2_with fail;rw[HR.out,hx];exact⟨rfl,za3 Ke.out⟩
  |ok x r=>
   rw[hx]at hE;obtain⟨rfl,⟨p,hb,hs⟩,hp,hf⟩:=hE;rw[<-RX.out]at hf;have Gr:=vp.fr hf (λe=>by rcases e with e|e<;>omega);have b0:=hb.cell 0;have b1:=hb.cell 1;have b2:=hb.cell 2;have b3:=hb.cell 3;have b4:=hb.cell 4;have b5:=hb.cell 5;have b6:=hb.cell 6;have r0:=Gr.cell 0;have r1:=Gr.cell 1;have r2:=Gr.cell 2;have r3:=Gr.cell 3;have r4:=Gr.cell 4;have r5:=Gr.cell 5;have r6:=Gr.cell 6;have y0:=Gr.frozen 0;have y1:=Gr.frozen 1;have y2:=Gr.frozen 2;have y3:=Gr.frozen 3;have y4:=Gr.frozen 4;have y5:=Gr.frozen 5;have y6:=Gr.frozen 6;simp only[stC,List.getElem?_toArray,List.getElem?_cons_succ,List.getElem?_cons_zero]at b0 b1 b2 b3 b4 b5 b6 r0 r1 r2 r3 r4 r5 r6;have Hk:=Gr.lt;have Wd:=aA hs;have vr:=aA hp;have Ke:=aA (PU.trans hf);have HX:=aA hx;clear hb hs hp hf hx Gr vq;go_wp2_with fail;refine bodyPost_ret (v:= .agg #[.int .u8 x.k,.string x.nm,.slice p.A x.args.len p.c,.slice p.B x.cond.len p.q,.slice p.D x.body.len p.e,.slice p.E x.els.len p.f,.int .i64 x.at_]) (by simp[results,Tryz.results206,go_sem,r0,r1,r2,r3,r4,r5,r6,Hk]) rfl ?_;rw[HR.out,HX.out];exact zfN HL.out Wd.out vr.out Ke.out rfl
def StRow (w:World)(S:Nat->Prop):List St->List Value->Prop
 | [],cs=>cs= []
 |x::xs,cs=>∃p xh,cs=stC x p++xh/\StS w S x p/\StRow w S xs xh
theorem StRow.imp {w w':World}{S S':Nat->Prop}(hf:SameS S w w')(hs:∀b,S b->S' b):∀ {xs:List St} {cs:List Value},StRow w S xs cs->StRow w' S' xs cs
 | [],_,h=>h
 |x::xs,cs,h=>by
  obtain⟨p,xh,e,h1,h5⟩:=h;exact⟨p,xh,e,h1.imp hf hs,StRow.imp hf hs h5⟩
theorem StRow.snoc {w:World}{S:Nat->Prop}{y:St}{p:Loc}(hy:StS w S y p):∀ {xs:List St} {cs:List Value},StRow w S xs cs->StRow w S (xs++ [y]) (cs++stC y p)
 | [],cs,h=>by
  have h:cs= []:=h;subst h;exact⟨p, [],by simp,hy,rfl⟩
 |x::xs,cs,h=>by
  obtain⟨q,xh,e,h1,h5⟩:=h;exact⟨q,xh++stC y p,by rw[e,List.append_assoc],h1,StRow.snoc hy h5⟩
theorem StRow.len {w:World}{S:Nat->Prop}:∀ {xs:List St} {cs:List Value},StRow w S xs cs->cs.length=xs.length*7
 | [],cs,h=>by
  have h:cs= []:=h;subst h;rfl
 |x::xs,cs,h=>by
  obtain⟨q,xh,e,h1,h5⟩:=h;rw[e,List.length_append,StRow.len h5];simp[stC];omega
theorem StRow.stR {w:World}{S:Nat->Prop}{g:Nat}(hg:S g):∀ {xs:List St} {cs:List Value} {o:Nat},StRow w S xs cs->(∀j u,cs[j]?=some u->w.cell? ⟨g,o+j,none⟩=some u)->StR w S False (zai xs) g o
 | [],_,_,_,_=>trivial
 |x::xs,cs,o,h,hc=>by
  obtain⟨p,xh,e,h1,h5⟩:=h;subst e;refine⟨⟨hg,λh=>absurd h id,h1.k,h1.at_,hc 0 _ rfl,hc 1 _ rfl,hc 6 _ rfl⟩,⟨_,_,hc 2 _ rfl,h1.args⟩,⟨_,_,hc 3 _ rfl,h1.cond⟩,⟨_,_,hc 4 _ rfl,h1.body⟩,⟨_,_,hc 5 _ rfl,h1.els⟩,?_⟩;refine StRow.stR hg h5 λj u hj=>?_;have:=hc (7+j) u (by rw[List.getElem?_append_right (by simp[stC])];simpa[stC]using hj);rw[Nat.add_assoc];exact this
theorem zoO {L:Nat}{w:World}{v:Value}{acc:List St}{cs:List Value}{S:Nat->Prop}(hr:w.ownsRow L 51 7 v acc.length cs)(hx:StRow w S acc cs)(hs:∀b,S b->L<=b/\b < w.heap.size)(hf:acc.length<=5001):StlV w L v acc:=by
 rcases hr.2 with⟨rfl,h0⟩|⟨g,cap,cur,rfl,hb,hg,hn,hc,Gp,ht⟩
 ·exact⟨none,0,by rw[zbZ,h0],by rw[zbZ,h0];exact⟨aL _,⟨by decide,by omega⟩,λh=>absurd h (Nat.lt_irrefl 0)⟩⟩
 ·have hl:g < w.heap.size:=(Array.getElem?_eq_some_iff.1 hg).1;have Nv:cap<=9223372036854775807:=by unfold maxLen at hc;omega
  suffices GK:StR w (New L w) False (zai acc) g 0 by
   exact⟨some ⟨g,0,none⟩,cap,by rw[zbZ],by rw[zbZ];exact⟨hn,⟨Nv,by omega⟩,λ_=>⟨g,0,rfl,GK⟩⟩⟩
  refine StRow.stR ⟨hb,hl⟩ (StRow.imp (SameS.refl _ _) hs hx) λj u hj=>?_;have:=hr.cells (g:=g) rfl j u hj;have Ll:(⟨g,0,none⟩:Addr).add j=⟨g,0+j,none⟩:=by
   rw[Nat.zero_add];unfold Addr.add;split<;>simp_all
  rw[Ll]at this;exact this
theorem zbg {w:World}{base:Nat}{e:TypeId}{size g n cap:Nat}{xs:List Value}(h:w.ownsRow base e size (.slice (some ⟨g,0,none⟩) n cap) n xs)(j:Nat)(u:Value):(w.setCell ⟨g,j,none⟩ u).ownsRow base e size (.slice (some ⟨g,0,none⟩) n cap) n (xs.set j u):=(h.stored j u).1
structure BlkX (C:Pcx)(w:World)(d:Nat)(R:PR (List St))(one:List Tk->PR St)(lb pb:Nat)(v:Value)(wr:World)(acc:List St)(cs:List Value)(l:List Tk):Prop where
 eq:∃f,R=zbi one f acc l/\l.length<=f
 lcell:Bk wr lb 25 #[v]
 row:wr.ownsRow w.heap.size 51 7 v acc.length cs
 rows:StRow wr (NewR w.heap.size v wr) acc cs
 few:acc.length+l.length<=5000
 pa:PaAt C wr l d
 fr:Fr (PT C lb) w wr
theorem BlkX.step {C:Pcx}{w wr w7 w9:World}{d:Nat}{R:PR (List St)}{one:List Tk->PR St}{lb pb f:Nat}{v:Value}{acc:List St}{cs:List Value}{r r2:List Tk}{x:St}{p:Loc}{g cap:Nat}
  (hL:C.P < w.heap.size/\C.TB < w.heap.size/\C.W0.heap.size<=w.heap.size) (Vo:lb < w.heap.size) (RY:lb≠C.P) (Vp:lb≠C.TB) (Nx:C.W0.heap.size<=lb)
  (hx:BlkX C w d R one lb pb v wr acc cs r) (hR:R=zbi one f (acc++ [x]) r2) (RZ:r2.length<=f) (GT:r2.length < r.length)
  (hv:StS w7 (New wr.heap.size w7) x p) (hp:PaAt C w7 r2 d) (hf:Fr C.T wr w7) (W:World) (Kx:Fr NoT w7 W)
  (Ha:w9.ownsRow w.heap.size 51 7 (.slice (some ⟨g,0,none⟩) (acc.length+1) cap) (acc.length+1) (cs++zeroSt.toList))
  (hg:W.grownBy w9 v.ownBlock) (GN:v.ownBlock=some g\/g=W.heap.size) (w10:World)
  (Gy:w10=(((((((w9.setCell ⟨g,acc.length*7,none⟩ (.int .u8 x.k)).setCell ⟨g,acc.length*7+1,none⟩ (.string x.nm)).setCell ⟨g,acc.length*7+2,none⟩ (.slice p.A x.args.len p.c)).setCell ⟨g,acc.length*7+3,none⟩ (.slice p.B x.cond.len p.q)).setCell ⟨g,acc.length*7+4,none⟩ (.slice p.D x.body.len p.e)).setCell ⟨g,acc.length*7+5,none⟩ (.slice p.E x.els.len p.f)).setCell ⟨g,acc.length*7+6,none⟩ (.int .i64 x.at_)).setCell ⟨lb,0,none⟩ (.slice (some ⟨g,0,none⟩) (acc.length+1) cap)):
  BlkX C w d R one lb pb (.slice (some ⟨g,0,none⟩) (acc.length+1) cap) w10 (acc++ [x]) (cs++stC x p) r2:=by
 have Hk:=hx.row.lt;have Vf:=hx.fr.size;have RT:=hf.size;have ML:=Kx.size;have L6:=hg.size;have GC:=hx.rows.len;have GY:=Ha.lt g rfl;have We:g≠lb:=by omega
 have Zo:g≠C.P:=by omega
 obtain⟨w8,G3⟩:=aF (((((((w9.setCell ⟨g,acc.length*7,none⟩ (.int .u8 x.k)).setCell ⟨g,acc.length*7+1,none⟩ (.string x.nm)).setCell ⟨g,acc.length*7+2,none⟩ (.slice p.A x.args.len p.c)).setCell ⟨g,acc.length*7+3,none⟩ (.slice p.B x.cond.len p.q)).setCell ⟨g,acc.length*7+4,none⟩ (.slice p.D x.body.len p.e)).setCell ⟨g,acc.length*7+5,none⟩ (.slice p.E x.els.len p.f)).setCell ⟨g,acc.length*7+6,none⟩ (.int .i64 x.at_));rw[<-G3]at Gy;have TS:w8.heap.size=w9.heap.size:=by rw[G3];simp
 have Wf:w10.heap.size=w9.heap.size:=by rw[Gy];simp[TS]
 have QI:Fr (λb=>b=g) w9 w8:=by rw[G3];exact aJ (aJ (aJ (aJ (aJ (aJ (aJ aH))))))
 have TT:Fr (λb=>b=lb) w8 w10:=by rw[Gy];exact aJ aH
 have QJ:w8.ownsRow w.heap.size 51 7 (.slice (some ⟨g,0,none⟩) (acc.length+1) cap) (acc.length+1) (cs++stC x p):=by
  have h1:=zbg (zbg (zbg (zbg (zbg (zbg (zbg Ha (acc.length*7) (.int .u8 x.k)) (acc.length*7+1) (.string x.nm)) (acc.length*7+2) (.slice p.A x.args.len p.c)) (acc.length*7+3) (.slice p.B x.cond.len p.q)) (acc.length*7+4) (.slice p.D x.body.len p.e)) (acc.length*7+5) (.slice p.E x.els.len p.f)) (acc.length*7+6) (.int .i64 x.at_);rw[<-G3]at h1;have e:(((((((cs++zeroSt.toList).set (acc.length*7) (.int .u8 x.k)).set (acc.length*7+1) (.string x.nm)).set (acc.length*7+2) (.slice p.A x.args.len p.c)).set (acc.length*7+3) (.slice p.B x.cond.len p.q)).set (acc.length*7+4) (.slice p.D x.body.len p.e)).set (acc.length*7+5) (.slice p.E x.els.len p.f)).set (acc.length*7+6) (.int .i64 x.at_)=cs++stC x p:=by
   rw[<-GC];simp[List.set_append,zeroSt,stC]
  rw[e]at h1;exact h1
 have Wg:Fr (λb=>v.ownBlock=some b) W w9:=Fr.grown hg λg e _=>e;have Lm:Fr (λb=>v.ownBlock=some b) w7 w9:=Kx.any.trans Wg;have QK:Fr (λb=>v.ownBlock=some b\/b=g\/b=lb) w7 w10:=((Lm.mono λi _ h=>Or.inl h).trans (QI.mono λi _ h=>Or.inr (Or.inl h))).trans (TT.mono λi _ h=>Or.inr (Or.inr h));have Ps:Fr (λb=>b=C.P\/v.ownBlock=some b\/b=g\/b=lb) wr w10:=(hf.mono λi _ h=>Or.inl h).trans (QK.mono λi _ h=>Or.inr h);have N7:∀b,b < w7.heap.size->v.ownBlock≠some b->b≠g:=λb hb hn e=>by
  subst e;rcases GN with h|h
  ·exact hn h
  ·omega
 have Jx:v.ownBlock≠some lb:=λe=>by have:=(Hk _ e).1;omega
 have Pt:v.ownBlock≠some C.P:=λe=>by have:=(Hk _ e).1;omega
 have Zp:v.ownBlock≠some C.TB:=λe=>by have:=(Hk _ e).1;omega
 refine⟨⟨f,hR,RZ⟩,?_,?_,?_,?_,?_,?_⟩
 ·have h1:Bk w8 lb 25 #[v]:=((hx.lcell.fr hf (λe=>RY e)).fr Lm Jx).fr QI λe=>We (by have e:lb=g:=e;exact e.symm);rw[Gy];simpa using h1.set_ 0 (.slice (some ⟨g,0,none⟩) (acc.length+1) cap)
 ·rw[Gy];have:=ownsRow_setCell_below QJ (a:=⟨lb,0,none⟩) Vo (.slice (some ⟨g,0,none⟩) (acc.length+1) cap);simpa using this
 ·refine StRow.snoc (hv.imp (QK.same λb hb=>⟨hb.2,λe=>?_⟩) λb hb=>⟨by have:=hb.1;omega,by have:=hb.2;omega,λe=>?_⟩) (StRow.imp (Ps.same λb hb=>⟨hb.2.1,λe=>?_⟩) (λb hb=>⟨hb.1,by have:=hb.2.1;omega,λe=>?_⟩) hx.rows)
  ·have h1:=hb.1;have h2:=hb.2;rcases e with e|e|e
   ·have:=(Hk _ e).2;omega
   ·exact N7 b h2 (λe=>by have:=(Hk _ e).2;omega) e
   ·omega
  ·have h1:=hb.1;have h2:=hb.2.1;have h3:=hb.2.2;rcases e with e|e|e|e
   ·omega
   ·exact h3 e
   ·exact N7 b (by omega) h3 e
   ·omega
  ·have h1:=hb.1;have h2:=hb.2;have e:g=b:=by simpa[Value.ownBlock]using e
   exact N7 b h2 (λe=>by have:=(Hk _ e).2;omega) e.symm
  ·have h2:=hb.2.1;have e:g=b:=by simpa[Value.ownBlock]using e
   exact N7 b (by omega) hb.2.2 e.symm
 ·have:=hx.few;rw[List.length_append,List.length_cons,List.length_nil];omega
 ·refine hp.fr QK (λe=>?_) (λe=>?_) (λi hi e=>?_)
  ·rcases e with e|e|e
   ·exact Pt e
   ·exact Zo e.symm
   ·exact RY e.symm
  ·rcases e with e|e|e
   ·exact Zp e
   ·omega
   ·exact Vp e.symm
  ·rcases e with e|e|e
   ·have:=(Hk _ e).1;omega
   ·omega
   ·omega
 ·refine((hx.fr.mono (T':=λb=>b=C.P\/v.ownBlock=some b\/b=g\/b=lb) λi _ h=>?_).trans Ps).mono λi hi e=>?_
  ·rcases h with h|h
   ·exact .inl h
   ·exact .inr (.inr (.inr h))
  ·rcases e with e|e|e|e
   ·exact .inl e
   ·have:=(Hk _ e).1;omega
   ·omega
   ·exact .inr e
def setE (n:Nat)(k:Int)(nm:ByteArray)(a:Int)(acc:List Ex)(r:List Tk):PR St:=(zal [61] r).then λ_ r=>(zaO n r).then λe r=>endS ⟨k,nm,za0 (acc++ [e]),.nil,.nil,.nil,a⟩ r
def setO (n:Nat)(nm:ByteArray)(a:Int)(r:List Tk):PR St:=if mayB [91] r then(za7 n r).then λi r=>setE n 3 nm a [i] r else setE n 2 nm a [] r
theorem zi8 {blk:List Tk->PR (List St)}{n:Nat}{l:List Tk}(h:keyK (hdT l).text =0):zaz blk n l=(zaZ l).then λx r=>setO n x.nm ((hdT l).at_ :Int) r:=by
 unfold zaz;simp only[h];rw[if_neg (by decide),if_neg (by decide),if_neg (by decide),if_neg (by decide),if_neg (by decide),if_neg (by decide)];rfl
structure SetX (C:Pcx)(w:World)(d:Nat)(k:Int)(nm:ByteArray)(a:Int)(v:Value)(acc:List Ex)(cs:List Value)(r:List Tk)(W:World):Prop where
 pa:PaAt C W r d
 st:Bk W (w.heap.size+1) 51 #[.int .u8 k,.string nm,v,.slice none 0 0,.slice none 0 0,.slice none 0 0,.int .i64 a]
 res:Bk W w.heap.size 51 zeroSt
 row:W.ownsRow (w.heap.size+2) 175 5 v acc.length cs
 rows:ExRow W (NewR (w.heap.size+2) v W) acc cs
 fr:Fr (PT C (w.heap.size+1)) w W
 few:acc.length<=1
theorem SetX.next {C:Pcx}{w W W':World}{d:Nat}{k a:Int}{nm:ByteArray}{v:Value}{acc:List Ex}{cs:List Value}{r r':List Tk}(hL:C.P < w.heap.size/\C.TB < w.heap.size/\C.W0.heap.size<=w.heap.size)(h:SetX C w d k nm a v acc cs r W)(hf:Fr C.T W W')(hp:PaAt C W' r' d):SetX C w d k nm a v acc cs r' W':=
 ⟨hp,h.st.fr hf λe=>by have e:w.heap.size+1=C.P:=e;omega,h.res.fr hf λe=>by have e:w.heap.size=C.P:=e;omega,zah h.row hf (by omega),
  h.rows.imp (hf.same λb hb=>⟨hb.2.1,λe=>by have e:b=C.P:=e;have:=hb.1;omega⟩) λb hb=>⟨hb.1,aM hb.2.1 hf.size,hb.2.2⟩,h.fr.trans (PT.l hf),h.few⟩
theorem SetX.alloc {C:Pcx}{w W:World}{d:Nat}{k a:Int}{nm:ByteArray}{v:Value}{acc:List Ex}{cs:List Value}{r:List Tk}(hL:C.P < w.heap.size/\C.TB < w.heap.size/\C.W0.heap.size<=w.heap.size)(h:SetX C w d k nm a v acc cs r W)(o:Obj):SetX C w d k nm a v acc cs r (W.alloc o):=
 h.next hL (aH.alloc _) (h.pa.alloc o)
theorem SetX.start {C:Pcx}{w w10 w11:World}{d:Nat}{a:Int}{nm:ByteArray}{r:List Tk}(hL:C.P < w.heap.size/\C.TB < w.heap.size/\C.W0.heap.size<=w.heap.size)
  (hb:Bk w10 (w.heap.size+1) 51 #[.int .u8 0,.string ⟨#[]⟩,.slice none 0 0,.slice none 0 0,.slice none 0 0,.slice none 0 0,.int .i64 a]) (hr:Bk w10 w.heap.size 51 zeroSt) (hp:PaAt C w10 r d) (hf:Fr C.T w w10)
  (Pu:w11=(w10.setCell ⟨w.heap.size+1,0,none⟩ (.int .u8 2)).setCell ⟨w.heap.size+1,1,none⟩ (.string nm)):SetX C w d 2 nm a (.slice none 0 0) [] [] r w11:=by
 have Kb:Fr (λb=>b=w.heap.size+1) w10 w11:=by rw[Pu];exact aJ (aJ aH)
 refine⟨hp.fr Kb (λe=>by have e:C.P=w.heap.size+1:=e;omega) (λe=>by have e:C.TB=w.heap.size+1:=e;omega) (λi hi e=>by have e:i=w.heap.size+1:=e;omega),?_,hr.fr Kb (λe=>by have e:w.heap.size=w.heap.size+1:=e;omega),World.ownsRow_nil _ _ _ _,rfl,(PT.l hf).trans (Kb.mono λi _ h=> .inr h),Nat.zero_le _⟩;have:=(hb.set_ 0 (.int .u8 2)).set_ 1 (.string nm);rw[Pu];simpa using this
theorem zhp {w:World}{base g:Nat}{e:TypeId}{cs:List Value}{size:Nat}(hb:Bk w g e cs.toArray)(hg:base<=g)(hs:cs.length=1*size):w.ownsRow base e size (.slice (some ⟨g,0,none⟩) 1 1) 1 cs:=
 ⟨hs,.inr ⟨g,1,cs.toArray,rfl,hg,hb,aL _,by decide,by simpa using hs,by rw[<-hs];simp⟩⟩
theorem SetX.index {C:Pcx}{w W w2 w3:World}{d:Nat}{a:Int}{nm:ByteArray}{r r':List Tk}{i:Ex}{A:Option Addr}{c:Nat}(hL:C.P < w.heap.size/\C.TB < w.heap.size/\C.W0.heap.size<=w.heap.size)(h:SetX C w d 2 nm a (.slice none 0 0) [] [] r W)
  (hf:Fr C.T W w2) (hp:PaAt C w2 r' d) (hv:ExV w2 W.heap.size (exV i.k i.nm i.n A i.args.len c i.at_) i)
  (h3:w3=((w2.setCell ⟨w.heap.size+1,0,none⟩ (.int .u8 3)).setCell ⟨w.heap.size+1,2,none⟩ (.slice (some ⟨w2.heap.size,0,none⟩) 1 1)).alloc (.cells (exC i A c).toArray 175)):
  SetX C w d 3 nm a (.slice (some ⟨w2.heap.size,0,none⟩) 1 1) [i] (exC i A c) r' w3:=by
 have Hk:=h.st.lt;have RT:=hf.size;have h1:=h.next hL hf hp;have hn:Bk w3 w2.heap.size 175 (exC i A c).toArray :=by rw[h3];exact Bk.new_at _ _ _ (by simp)
 have Kb:Fr (λb=>b=w.heap.size+1) w2 w3:=by rw[h3];exact(aJ (aJ aH)).alloc _
 obtain⟨x1,x2,x3,Ax,cx,ex,JJ⟩:=hv;simp only[exV,Value.agg.injEq,Array.mk.injEq,List.cons.injEq,Value.slice.injEq,true_and,and_true]at ex;obtain⟨rfl,rfl⟩:=ex;have PV:w3.heap.size=w2.heap.size+1:=by rw[h3];simp
 refine⟨h1.pa.fr Kb (λe=>by have e:C.P=w.heap.size+1:=e;omega) (λe=>by have e:C.TB=w.heap.size+1:=e;omega) (λi hi e=>by have e:i=w.heap.size+1:=e;omega),?_,h1.res.fr Kb (λe=>by have e:w.heap.size=w.heap.size+1:=e;omega),
  zhp hn (by omega) rfl,⟨A,c, [],by simp,x1,x2,x3,?_,rfl⟩,h1.fr.trans (Kb.mono λi _ h=> .inr h),aL _⟩
 ·have:=((h1.st.set_ 0 (.int .u8 3)).set_ 2 (.slice (some ⟨w2.heap.size,0,none⟩) 1 1)).alloc (.cells (exC i A c).toArray 175);rw[h3];simpa using this
 ·have FU:=Kb;refine JJ.imp λ_ _ h=>ExR.more (λb hb=>?_) (ExR.keep (FU.same λb hb=>⟨hb.2,λe=>?_⟩) h)
  ·have h1:=hb.1;have h2:=hb.2;exact⟨by omega,by omega,λe=>by have e:w2.heap.size=b:=(by simpa[Value.ownBlock]using e);omega⟩
  ·have e:b=w.heap.size+1:=e;have:=hb.1;omega
theorem zbm {P:Program}{ops:Array Oper}{o:Oper}{a:Act}{w:World}{K:Act->World->Prop}{Q:Exit->Act->World->Prop}{E:Prop}(f:Operand)(xs:Array Operand)(ts:Array TypeId)(h:o.op= .call {callee:= .value f,args:=xs,argTypes:=ts})
  (g:if Region.wanted o (yielded ops a.tmps)=true then Oper.wp P o a w K Q else E):if Region.wanted o (yielded ops a.tmps)=true then Oper.wp P o a w K Q else E:=g
theorem Bk.news {w:World}{g:Nat}{t:TypeId}{cs:Array Value}(h:Bk w g t cs):∀j u,cs.toList[j]?=some u->w.cell? ((⟨g,0,none⟩:Addr).add j)=some u:=World.news_of_block (fr:=(0,0)) (t:=t) h
def zeroEx:Array Value:= #[.int .u8 0,.string ⟨#[]⟩,.int .i64 0,.slice none 0 0,.int .i64 0]
theorem zcQ {w:World}{base:Nat}{e:TypeId}{g cap n:Nat}{cs:List Value}(h:w.ownsRow base e 5 (.slice (some ⟨g,0,none⟩) (n+1) cap) (n+1) (cs++zeroEx.toList))(hl:cs.length=n*5):
  w.cell? ⟨g,n*5,none⟩=some (.int .u8 0)/\w.cell? ⟨g,n*5+1,none⟩=some (.string ⟨#[]⟩)/\w.cell? ⟨g,n*5+2,none⟩=some (.int .i64 0)/\w.cell? ⟨g,n*5+3,none⟩=some (.slice none 0 0)/\w.cell? ⟨g,n*5+4,none⟩=some (.int .i64 0)/\∀j,w.frozen? ⟨g,j,none⟩=false:=by
 have key:∀j,j < 5->w.cell? ⟨g,n*5+j,none⟩=zeroEx.toList[j]?:=λj hj=>by
  rw[h.cellAt (n*5+j) (by omega),List.getElem?_append_right (by omega),hl,Nat.add_sub_cancel_left]
 exact⟨key 0 (by omega),key 1 (by omega),key 2 (by omega),key 3 (by omega),key 4 (by omega),λj=>h.frozenAt j⟩
structure SetY (C:Pcx)(w:World)(d:Nat)(x:St)(p:Loc)(r:List Tk)(W:World):Prop where
 pa:PaAt C W r d
 st:Bk W (w.heap.size+1) 51 (stC x p).toArray
 res:Bk W w.heap.size 51 zeroSt
 hs:StS W (λb=>w.heap.size+2<=b/\b < W.heap.size/\b≠w.heap.size+1) x p
 fr:Fr (PT C (w.heap.size+1)) w W
theorem SetY.next {C:Pcx}{w W W':World}{d:Nat}{x:St}{p:Loc}{r r':List Tk}(hL:C.P < w.heap.size/\C.TB < w.heap.size/\C.W0.heap.size<=w.heap.size)(h:SetY C w d x p r W)(hf:Fr C.T W W')(hp:PaAt C W' r' d):SetY C w d x p r' W':=
 ⟨hp,h.st.fr hf λe=>by have e:w.heap.size+1=C.P:=e;omega,h.res.fr hf λe=>by have e:w.heap.size=C.P:=e;omega,
  h.hs.imp (hf.same λb hb=>⟨hb.2.1,λe=>by have e:b=C.P:=e;have:=hb.1;omega⟩) λb hb=>⟨hb.1,aM hb.2.1 hf.size,hb.2.2⟩,h.fr.trans (PT.l hf)⟩
theorem SetX.step {C:Pcx}{w wr w7 w9:World}{d:Nat}{k a:Int}{nm:ByteArray}{v:Value}{acc:List Ex}{cs:List Value}{r r2:List Tk}{x:Ex}{A:Option Addr}{c g cap:Nat}
  (hL:C.P < w.heap.size/\C.TB < w.heap.size/\C.W0.heap.size<=w.heap.size) (Kt:in8 k) (ha:in64 a)
  (hx:SetX C w d k nm a v acc cs r wr) (hv:ExV w7 wr.heap.size (exV x.k x.nm x.n A x.args.len c x.at_) x) (hp:PaAt C w7 r2 d) (hf:Fr C.T wr w7) (W:World) (Kx:Fr NoT w7 W)
  (Ha:w9.ownsRow (w.heap.size+2) 175 5 (.slice (some ⟨g,0,none⟩) (acc.length+1) cap) (acc.length+1) (cs++zeroEx.toList))
  (hg:W.grownBy w9 v.ownBlock) (GN:v.ownBlock=some g\/g=W.heap.size) (w10:World)
  (Gy:w10=(((((w9.setCell ⟨g,acc.length*5,none⟩ (.int .u8 x.k)).setCell ⟨g,acc.length*5+1,none⟩ (.string x.nm)).setCell ⟨g,acc.length*5+2,none⟩ (.int .i64 x.n)).setCell ⟨g,acc.length*5+3,none⟩ (.slice A x.args.len c)).setCell ⟨g,acc.length*5+4,none⟩ (.int .i64 x.at_)).setCell ⟨w.heap.size+1,2,none⟩ (.slice (some ⟨g,0,none⟩) (acc.length+1) cap)):
  SetY C w d ⟨k,nm,za0 (acc++ [x]),.nil,.nil,.nil,a⟩ ⟨some ⟨g,0,none⟩,cap,none,0,none,0,none,0⟩ r2 w10:=by
 have Hk:=hx.row.lt;have Vf:=hx.fr.size;have RT:=hf.size;have ML:=Kx.size;have L6:=hg.size;have GC:cs.length=acc.length*5:=hx.row.1;have GY:=Ha.lt g rfl;have Gu:=hx.st.lt;obtain⟨x1,x2,x3,Ax,cx,ex,JJ⟩:=hv;simp only[exV,Value.agg.injEq,Array.mk.injEq,List.cons.injEq,Value.slice.injEq,true_and,and_true]at ex;obtain⟨rfl,rfl⟩:=ex;obtain⟨w8,G3⟩:=aF (((((w9.setCell ⟨g,acc.length*5,none⟩ (.int .u8 x.k)).setCell ⟨g,acc.length*5+1,none⟩ (.string x.nm)).setCell ⟨g,acc.length*5+2,none⟩ (.int .i64 x.n)).setCell ⟨g,acc.length*5+3,none⟩ (.slice A x.args.len c)).setCell ⟨g,acc.length*5+4,none⟩ (.int .i64 x.at_));rw[<-G3]at Gy;have TS:w8.heap.size=w9.heap.size:=by rw[G3];simp
 have Wf:w10.heap.size=w9.heap.size:=by rw[Gy];simp[TS]
 have QI:Fr (λb=>b=g) w9 w8:=by rw[G3];exact aJ (aJ (aJ (aJ (aJ aH))))
 have TT:Fr (λb=>b=w.heap.size+1) w8 w10:=by rw[Gy];exact aJ aH
 have QJ:w8.ownsRow (w.heap.size+2) 175 5 (.slice (some ⟨g,0,none⟩) (acc.length+1) cap) (acc.length+1) (cs++exC x A c):=by
  have h1:=zbg (zbg (zbg (zbg (zbg Ha (acc.length*5) (.int .u8 x.k)) (acc.length*5+1) (.string x.nm)) (acc.length*5+2) (.int .i64 x.n)) (acc.length*5+3) (.slice A x.args.len c)) (acc.length*5+4) (.int .i64 x.at_);rw[<-G3]at h1;have e:(((((cs++zeroEx.toList).set (acc.length*5) (.int .u8 x.k)).set (acc.length*5+1) (.string x.nm)).set (acc.length*5+2) (.int .i64 x.n)).set (acc.length*5+3) (.slice A x.args.len c)).set (acc.length*5+4) (.int .i64 x.at_)=cs++exC x A c:=by
   rw[<-GC];simp[List.set_append,zeroEx,exC]
  rw[e]at h1;exact h1
 have Wg:Fr (λb=>v.ownBlock=some b) W w9:=Fr.grown hg λg e _=>e;have Lm:Fr (λb=>v.ownBlock=some b) w7 w9:=Kx.any.trans Wg;have QK:Fr (λb=>v.ownBlock=some b\/b=g\/b=w.heap.size+1) w7 w10:=((Lm.mono λi _ h=>Or.inl h).trans (QI.mono λi _ h=>Or.inr (Or.inl h))).trans (TT.mono λi _ h=>Or.inr (Or.inr h));have Ps:Fr (λb=>b=C.P\/v.ownBlock=some b\/b=g\/b=w.heap.size+1) wr w10:=(hf.mono λi _ h=>Or.inl h).trans (QK.mono λi _ h=>Or.inr h);have N7:∀b,b < w7.heap.size->v.ownBlock≠some b->b≠g:=λb hb hn e=>by
  subst e;rcases GN with h|h
  ·exact hn h
  ·omega
 have QL:=ownsRow_setCell_below QJ (a:=⟨w.heap.size+1,2,none⟩) (by show w.heap.size+1 < w.heap.size+2;omega) (.slice (some ⟨g,0,none⟩) (acc.length+1) cap);rw[<-Gy]at QL;have RU:ExRow w10 (NewR (w.heap.size+2) (.slice (some ⟨g,0,none⟩) (acc.length+1) cap) w10) (acc++ [x]) (cs++exC x A c):=by
  refine ExRow.snoc ⟨x1,x2,x3,JJ.imp λ_ _ h=>ExR.more (T:=NewR (w.heap.size+2) (.slice (some ⟨g,0,none⟩) (acc.length+1) cap) w10) (λb hb=>?_) (ExR.keep (QK.same λb hb=>⟨hb.2,λe=>?_⟩) h)⟩ (ExRow.imp (Ps.same λb hb=>⟨hb.2.1,λe=>?_⟩) (λb hb=>⟨hb.1,by have:=hb.2.1;omega,λe=>?_⟩) hx.rows)
  ·refine⟨by have:=hb.1;omega,by have:=hb.2;omega,λe=>?_⟩;have h1:=hb.1;have h2:=hb.2;have e:g=b:=by simpa[Value.ownBlock]using e
   exact N7 b h2 (λe=>by have:=(Hk _ e).2;omega) e.symm
  ·have h1:=hb.1;have h2:=hb.2;rcases e with e|e|e
   ·have:=(Hk _ e).2;omega
   ·exact N7 b h2 (λe=>by have:=(Hk _ e).2;omega) e
   ·omega
  ·have h1:=hb.1;have h2:=hb.2.1;have h3:=hb.2.2;rcases e with e|e|e|e
   ·omega
   ·exact h3 e
   ·exact N7 b (by omega) h3 e
   ·omega
  ·have h2:=hb.2.1;have e:g=b:=by simpa[Value.ownBlock]using e
   exact N7 b (by omega) hb.2.2 e.symm
 have hlen:(za0 (acc++ [x])).len =acc.length+1:=by rw[zbD];simp
 obtain⟨A',c',he,Gq⟩:=zel (S:=NewR (w.heap.size+2) (.slice (some ⟨g,0,none⟩) (acc.length+1) cap) w10) (by simpa using QL) RU (λb hb=>⟨hb.1,hb.2.1⟩) (by have:=hx.few;simp;omega);rw[hlen]at he Gq;simp only[Value.slice.injEq,true_and]at he;obtain⟨rfl,rfl⟩:=he;refine⟨hp.fr QK (λe=>?_) (λe=>?_) (λi hi e=>?_),?_,?_,⟨Kt,ha,?_,⟨aL 0,sl0,λh=>absurd h (Nat.lt_irrefl 0)⟩,⟨aL 0,⟨(by decide:(0:Nat)<=9223372036854775807),by exact Nat.zero_le _⟩,λh=>absurd h (Nat.lt_irrefl 0)⟩,⟨aL 0,⟨(by decide:(0:Nat)<=9223372036854775807),by exact Nat.zero_le _⟩,λh=>absurd h (Nat.lt_irrefl 0)⟩⟩,?_⟩
 ·rcases e with e|e|e
  ·have:=(Hk _ e).1;omega
  ·omega
  ·omega
 ·rcases e with e|e|e
  ·have:=(Hk _ e).1;omega
  ·omega
  ·omega
 ·rcases e with e|e|e
  ·have:=(Hk _ e).1;omega
  ·omega
  ·omega
 ·have h1:Bk w8 (w.heap.size+1) 51 #[.int .u8 k,.string nm,v,.slice none 0 0,.slice none 0 0,.slice none 0 0,.int .i64 a]:=((hx.st.fr hf (λe=>by have e:w.heap.size+1=C.P:=e;omega)).fr Lm (λe=>by have:=(Hk _ e).1;omega)).fr QI λe=>by have e:w.heap.size+1=g:=e;omega
  rw[Gy];have:=h1.set_ 2 (.slice (some ⟨g,0,none⟩) (acc.length+1) cap);simpa[stC,hlen,Cds.len,Sts.len]using this
 ·exact hx.res.fr Ps λe=>by
   rcases e with e|e|e|e
   ·omega
   ·have:=(Hk _ e).1;omega
   ·omega
   ·omega
 ·show SlR _ (za0 (acc++ [x])).len 64 _ _
  rw[hlen];exact Gq.imp λ_ _ h=>ExR.more (λb hb=>⟨hb.1,hb.2,by have:=hb.1;omega⟩) h
 ·refine((hx.fr.mono (T':=λb=>b=C.P\/v.ownBlock=some b\/b=g\/b=w.heap.size+1) λi _ h=>?_).trans Ps).mono λi hi e=>?_
  ·rcases h with h|h
   ·exact .inl h
   ·exact .inr (.inr (.inr h))
  ·rcases e with e|e|e|e
   ·exact .inl e
   ·have:=(Hk _ e).1;omega
   ·omega
   ·exact .inr e
theorem zat {w:World}{p q:Addr}(h:p.block≠q.block)(u v:Value):(w.setCell p u).setCell q v=(w.setCell q v).setCell p u:=by
 unfold World.setCell
 congr 1
 apply Array.ext_getElem?;intro i;simp only[Array.getElem?_modify];by_cases h1:p.block=i<;>by_cases h2:q.block=i
 ·exact absurd (h1.trans h2.symm) h
 ·simp[h1,h2]
 ·simp[h1,h2]
 ·simp[h1,h2]
theorem SetX.stepN {C:Pcx}{w wr w7 w9:World}{d:Nat}{k a:Int}{nm:ByteArray}{v:Value}{acc:List Ex}{cs:List Value}{r r2:List Tk}{x:Ex}{A:Option Addr}{c g cap:Nat}{o0 o1 o2 o3 o4 m:Nat}(ho:o0=acc.length*5/\o1=acc.length*5+1/\o2=acc.length*5+2/\o3=acc.length*5+3/\o4=acc.length*5+4/\m=acc.length+1)
  (hL:C.P < w.heap.size/\C.TB < w.heap.size/\C.W0.heap.size<=w.heap.size) (Kt:in8 k) (ha:in64 a)
  (hx:SetX C w d k nm a v acc cs r wr) (hv:ExV w7 wr.heap.size (exV x.k x.nm x.n A x.args.len c x.at_) x) (hp:PaAt C w7 r2 d) (hf:Fr C.T wr w7) (W:World) (Kx:Fr NoT w7 W)
  (Ha:w9.ownsRow (w.heap.size+2) 175 5 (.slice (some ⟨g,0,none⟩) (acc.length+1) cap) (acc.length+1) (cs++zeroEx.toList))
  (hg:W.grownBy w9 v.ownBlock) (GN:v.ownBlock=some g\/g=W.heap.size) (w10:World)
  (Gy:w10=(((((w9.setCell ⟨g,o0,none⟩ (.int .u8 x.k)).setCell ⟨g,o1,none⟩ (.string x.nm)).setCell ⟨g,o2,none⟩ (.int .i64 x.n)).setCell ⟨g,o3,none⟩ (.slice A x.args.len c)).setCell ⟨g,o4,none⟩ (.int .i64 x.at_)).setCell ⟨w.heap.size+1,2,none⟩ (.slice (some ⟨g,0,none⟩) m cap)\/
   w10=(((((w9.setCell ⟨w.heap.size+1,2,none⟩ (.slice (some ⟨g,0,none⟩) m cap)).setCell ⟨g,o0,none⟩ (.int .u8 x.k)).setCell ⟨g,o1,none⟩ (.string x.nm)).setCell ⟨g,o2,none⟩ (.int .i64 x.n)).setCell ⟨g,o3,none⟩ (.slice A x.args.len c)).setCell ⟨g,o4,none⟩ (.int .i64 x.at_)):
  SetY C w d ⟨k,nm,za0 (acc++ [x]),.nil,.nil,.nil,a⟩ ⟨some ⟨g,0,none⟩,cap,none,0,none,0,none,0⟩ r2 w10:=by
 obtain⟨rfl,rfl,rfl,rfl,rfl,rfl⟩:=ho;have GY:=Ha.lt g rfl;refine SetX.step hL Kt ha hx hv hp hf W Kx Ha hg GN w10 ?_;rcases Gy with h|h
 ·exact h
 ·have Gh:∀j,(⟨w.heap.size+1,2,none⟩:Addr).block ≠(⟨g,j,none⟩:Addr).block :=λj e=>by
   have e:w.heap.size+1=g:=e;omega
  rw[h,zat (Gh _),zat (Gh _),zat (Gh _),zat (Gh _),zat (Gh _)]
theorem zmL (C:Pcx)(n:Nat)(l:List Tk)(d:Nat)(w:World)(k:Int)(KV:k=keyK (hdT l).text)(GI:k=0)(Ga:d+n=24)(hk:C.Ok)(h:PaAt C w l d):
  Calls Tryz.prog 206 #[.pointer (some ⟨C.P,0,none⟩)] w (EndV C d zi7 (zaz (zag n) n l) w):=by
 obtain⟨i0,hi,Fg,Hw,G5⟩:=info_parts zkm;have HI:=aA (aG hi (aG Fg (aG Hw G5)));clear hi Fg Hw G5;obtain⟨R,hR⟩:=aF (zaz (zag n) n l);rw[<-hR];rw[zi8 (by rw[<-KV];exact GI)]at hR;have hL:=h.lts;obtain⟨j,cap,m,GW,Jn,hl,F9,G7,hb,p0,p1,f0,f1,t0,t1,t2,ltP,ltT⟩:=h.cells;have JY:m<=9223372036854775807:=by omega
 have JU:(0:Int) < (m:Int):=by omega
 have Ph:(hdT l).text.length <=4096:=by
  have hd:=zaH hl h.ne;exact hk.len _ (List.mem_of_getElem? hd.1)
 obtain⟨a,ha⟩:∃a:Int,a=((hdT l).at_ :Int):=⟨_,rfl⟩;obtain⟨tx,Mh⟩:=aF (txt (hdT l));have Kg:in64 a:=by rw[ha];exact zbf hk h
 rw[<-ha]at t2;rw[<-Mh]at t1;rw[<-ha]at hR;have HR:=aA hR;have HA:=aA ha;have S4:=aA Kg;obtain⟨w1,Hc⟩:=aF ((w.alloc (.cells zeroSt 51)).alloc (.cells #[.int .u8 0,.string ⟨#[]⟩,.slice none 0 0,.slice none 0 0,.slice none 0 0,.slice none 0 0,.int .i64 a] 51));obtain⟨Gz,G2,Hd⟩:=zff w w1 a Hc;have hz:w1.heap.size=w.heap.size+2:=by rw[Hc];simp
 have e1:(!(k==0))=false:=by simpa using GI
 have J5:∀(W:World)(b:Nat),KwM W b 7 kwTab->(Instr.lookup 326 (.map (some b)) (.string tx) true).run Tryz.prog W= .ok (.tuple #[.agg #[.int .u8 0,.nilFunc],.bool false]) W:=λW b hW=>by
  have:=zie (w:=w) KV Mh Ph hW;rw[if_pos GI,e1]at this;exact this
 have xK:=(Hd.cell (p:=⟨C.P,0,none⟩) ltP id).trans p0;have t11:=(Hd.cell (p:=⟨C.TB,j*3+1,none⟩) ltT id).trans t1;have QG:C.P < w1.heap.size:=by omega
 have QH:C.TB < w1.heap.size:=by omega
 have TQ:=aA J5;have S3:=aA KV;have Nf:=aA GI;have MT:=aA Ga;have Zn:=aA (λ(wk w9:World)(u0 u1:Value)(JN:Fr NoT w1 wk) h9=>znZ (C:=C) (u0:=u0) (u1:=u1) (w9:=w9) hL Kg h Gz G2 hz Hd JN h9);have Mx:=aA (λ(wa wk w9:World)(z0 z1 u0 u1:Value)(FU:Fr NoT w1 wa) Nk (JN:Fr NoT wa wk) h9=>zn0 (C:=C) (u0:=u0) (u1:=u1) (z0:=z0) (z1:=z1) (w9:=w9) hL Kg h Gz G2 hz Hd FU Nk JN h9);have Ge:=aA Hc;have HZ:=aA hz;have HK:=aA hk;have HL:=aA hL;have Hl:=aA Hd;clear hR hb GW hl ha Mh KV GI e1 J5 Hc Gz G2 hz Hd h hk hL Ph Kg;go_enter Tryz.func206,Tryz.ntmps206;go_wp2_with fail;rw[show(w.alloc (.cells #[.int .u8 0,.string ⟨#[]⟩,.slice none 0 0,.slice none 0 0,.slice none 0 0,.slice none 0 0,.int .i64 0] 51)).alloc (.cells #[.int .u8 0,.string ⟨#[]⟩,.slice none 0 0,.slice none 0 0,.slice none 0 0,.slice none 0 0,.int .i64 a] 51)=w1 from Ge.symm];clear p0 t1 t2 p1 f0 f1 t0;go_cut [4,5] (λs4 s5 wx=>s5= .bool false/\∃gb,s4= .pointer (some ⟨gb,0,none⟩)/\Hid (StmR C w w.heap.size (w.heap.size+1) gb l d ⟨0,noB,.nil,.nil,.nil,.nil,a⟩ (.int .u8 0) .nilFunc wx/\w.heap.size+2<=gb));case first=>
  go_region_held2 (λW'=>W'.cell? ⟨C.P,0,none⟩=some (.slice (some ⟨C.TB,j*3,none⟩) m cap)/\W'.cell? ⟨C.TB,j*3+1,none⟩=some (.string tx))
   (first
    |(refine⟨?_,?_⟩<;>with_reducible assumption)
    |(refine⟨(Fr.cell (T:=λb=>b=gb) (w:=wk) ?_ Vi Vj).trans Vk,(Fr.cell (T:=λb=>b=gb) (w:=wk) ?_ Vl Vm).trans Mu⟩
      all_goals(subst Nl;repeat(first|exact aH|refine Fr.alloc ?_ _|refine Fr.own ?_ _ _)))
    |(refine⟨(Fr.cell (T:=NoT) (w:=w1) ?_ QG id).trans xK,(Fr.cell (T:=NoT) (w:=w1) ?_ QH id).trans t11⟩
      all_goals(repeat(first|exact aH|refine Fr.alloc ?_ _|refine Fr.drew ?_))))
   (first
    |(go_at_call 245
      refine(zby w1.drew).mono ?_;rintro _ wk ⟨kb,rfl,KD,KY,JN⟩;have Fw:=TQ _ _ KY;have FM:=TQ _ _ (KY.kept (World.grownBy_alloc wk (.cells #[.int .u8 0,.nilFunc] 324) none) (by simp));have FX:Fr NoT w1 wk:=(Fr.drew aH).trans JN;have Vk:=(FX.cell (p:=⟨C.P,0,none⟩) QG id).trans xK;have Mu:=(FX.cell (p:=⟨C.TB,j*3+1,none⟩) QH id).trans t11;have Vi:=aM QG FX.size;have Vl:=aM QH FX.size;obtain⟨gb,Nl⟩:=aF wk.heap.size;have Vj:¬C.P=gb:=by omega
      have Vm:¬C.TB=gb:=by omega
      have HE:=aA (λw9 h9=>Zn wk w9 (.int .u8 0) .nilFunc FX h9);clear KY JN)
    |(go_at_call 245
      refine(zby (w1.alloc (.cells #[.int .u8 0,.nilFunc] 324)).drew).mono ?_;rintro _ wk ⟨kb,rfl,KD,KY,JN⟩;have Fw:=TQ _ _ KY;have FU:Fr NoT w1 (w1.alloc (.cells #[.int .u8 0,.nilFunc] 324)).drew :=Fr.drew (aH.alloc _);have Nk:Bk (w1.alloc (.cells #[.int .u8 0,.nilFunc] 324)).drew w1.heap.size 324 #[.int .u8 0,.nilFunc]:=Bk.new _ _ _;have FX:Fr NoT w1 wk:=FU.trans JN;have Vk:=(FX.cell (p:=⟨C.P,0,none⟩) QG id).trans xK;have Mu:=(FX.cell (p:=⟨C.TB,j*3+1,none⟩) QH id).trans t11;have Vi:=aM QG FX.size;have Vl:=aM QH FX.size;obtain⟨gb,Nl⟩:=aF w1.heap.size;have Vj:¬C.P=gb:=by omega
      have Vm:¬C.TB=gb:=by omega
      have Hr:=Nk.fr0 JN;have q0:=Hr.cell 0;have q1:=Hr.cell 1;have g0:=Hr.frozen 0;have g1:=Hr.frozen 1;have GY:=Hr.lt;simp only[aD]at q0 q1;have HE:=aA (λw9 h9=>Mx _ wk w9 (.int .u8 0) .nilFunc (.int .u8 0) .nilFunc FU Nk JN h9);clear KY JN Nk FU Hr))
  all_goals
   have Wc:w.heap.size+2<=gb:=by rw[Nl];have:=FX.size;have:=HZ.out;omega
   rw[Nl]at Wc;have Zq:=aA Wc;clear Wc;go_wp2_with fail
   go_meet
   exact⟨rfl,_,rfl,aA ⟨HE _ rfl,Zq.out⟩⟩
 case rest=>
  obtain⟨rfl,gb,rfl,Ny⟩:=hcut;have HN:=aA (zbs C l d _ HK.out Ny.1.pa);have HS:=aA Ny.1;have Zq:=aA Ny.2;clear Ny;go_wp2_with fail;refine HN.mono ?_;intro e w10 hE;rcases hE.ways with⟨v,r,hx,rfl,FC,hp,hf⟩|⟨c,a2,hx,rfl,hf⟩;rotate_left
  ·go_wp2_with fail;exact⟨rfl,by rw[HR.out,hx];exact za3 (PT.l (HS.fr.any.trans hf))⟩
  have GJ:=HR.out;rw[hx]at GJ;replace GJ:R=setO n v.nm a r:=GJ;obtain⟨nm,Jt⟩:=aF v.nm;rw[<-Jt]at GJ ⊢;have GF:=aA GJ;have hL:=HL.out;have FH:=HS.raw.fr hf (λe=>by have e:w.heap.size+1=C.P:=e;omega);have Wh:=HS.res.fr hf (λe=>by have e:w.heap.size=C.P:=e;omega);have s0:=FH.cell 0;have s1:=FH.cell 1;have z0:=FH.frozen 0;have z1:=FH.frozen 1;simp only[aD]at s0 s1;have TU:=aA (λw11 Pu=>SetX.start (w11:=w11) (nm:=nm) HL.out FH Wh hp (HS.fr.any.trans hf) Pu);have GH:w.heap.size+2<=w10.heap.size:=by have h1:=HS.beg.lt;have h2:=hf.size;have h3:=Zq.out;omega
  have Ki:=aA GH;clear hx FC hp hf GJ hL FH Wh GH Jt;obtain⟨w11,Kh⟩:=aF ((w10.setCell ⟨w.heap.size+1,0,none⟩ (.int .u8 2)).setCell ⟨w.heap.size+1,1,none⟩ (.string nm));have KZ:=TU w11 Kh;have Pv:w11.heap.size=w10.heap.size:=by rw[Kh];simp
  cases hm:mayB [91] r
  ·have hi:=zdA C [91] r d w11.heap.size _ (KZ.pa.alloc (.cells #[.string ⟨#[91]⟩] 9)) hm (by simp);unfold pP at hi;have JJ:=KZ.alloc HL.out (.cells #[.string ⟨#[91]⟩] 9);obtain⟨WT,Fs⟩:=aF (w11.alloc (.cells #[.string ⟨#[91]⟩] 9));rw[<-Fs]at JJ;have MU:WT.heap.size=w10.heap.size+1:=by rw[Fs];simp[Pv]
   have Zr:=aA (show w10.heap.size<=WT.heap.size by omega);rw[Pv,Kh]at hi;rw[Kh]at Fs;have TH:=aA hi;have Fe:=aA (show R=setE n 2 nm a [] r from by rw[GF.out,setO,hm];rfl);have QM:=aA JJ;have Zs:=aA Fs;have MB:=aA MU;clear Kh KZ Pv hi hm JJ Fs MU;go_wp2_with fail;refine TH.mono ?_;rintro _ xt ⟨q,hq,rfl,rfl⟩;have JJ:=QM.out;have Fs:=Zs.out;have Wi:=MB.out;have ht:=zau C [61] r d WT.heap.size _ HK.out (JJ.pa.alloc (.cells #[.string ⟨#[61]⟩] 9)) (by decide) (by simp);have TU:=aA (JJ.alloc HL.out (.cells #[.string ⟨#[61]⟩] 9));rw[Wi,Fs]at ht;have Zt:=aA Fs;have HT:=aA ht;clear JJ ht Wi Fs;go_wp2_with fail;refine HT.mono ?_;intro e w4 hE;rw[<-Zt.out]at hE;rcases hE with⟨ht,rfl,hp,hf⟩|⟨ht,rfl,hf⟩;rotate_left
   ·go_wp2_with fail;exact⟨rfl,by rw[Fe.out,setE,ht];exact za3 (TU.fr.trans (PT.l hf))⟩
   have Kf:=Fe.out;rw[setE,ht]at Kf;replace Kf:R=(zaO n r.tail).then λe r=>endS ⟨2,nm,za0 (([]:List Ex)++ [e]),.nil,.nil,.nil,a⟩ r:=Kf;have K6:=aA Kf;have LN:=TU.next HL.out hf hp;have PW:=aA (λW (hW:Fr NoT w4 W)=>zb5 C n r.tail d W MT.out HK.out (LN.pa.fr hW id id λ_ _=>id));have Zu:w.heap.size+2<=w4.heap.size:=aK Ki.out (aK (by rw[World.size_alloc];exact aK Zr.out (Nat.le_succ _)) hf.size);have Zv:w.heap.size+1 < w4.heap.size:=by omega
   have s2:=LN.st.cell 2;have z2:=LN.st.frozen 2;simp only[aD]at s2;have MC:=aA LN;clear ht hp hf Kf LN;go_wp2_with fail;go_cut [60] (λDG wx=>∃(xs:St)(pl:Loc)(r3:List Tk),Hid (R=endS xs r3/\SetY C w d xs pl r3 wx));case first=>
    go_region_law
     (first
      |(refine zbm _ _ _ (by rfl) ?_
        go_simp;go_at_call 247
        with_reducible refine(PW.out w4.drew (Fr.drew aH)).mono ?_
        intro e w7 hE;rcases hE.ways with⟨x,r3,A,c,hX,rfl,hv,hp,hf⟩|⟨c,a2,hX,rfl,hf⟩;case inr=>exact⟨rfl,by rw[K6.out,hX];exact za3 (MC.fr.trans (PT.l ((Fr.drew (Fr.refl C.T w4)).trans hf)))⟩
        have Hs:Fr C.T w4 w7:=(Fr.drew (Fr.refl C.T w4)).trans hf;have Lt:=MC.next HL.out Hs hp;have xL:=Lt.st.cell 2;have uH:=Lt.st.frozen 2;have MV:=Hs.size;have TV:w.heap.size+1 < w7.heap.size:=by omega
        simp only[aD]at xL;have HX:=aA hX;have HV:=aA hv;have HP:=aA hp;have Fp:=aA Hs;have Nz:=aA (Lt.alloc HL.out (.cells #[.int .u8 0,.string ⟨#[]⟩,.int .i64 0,.slice none 0 0,.int .i64 0] 175));have Kl:=aA (Bk.new w7 175 zeroEx).news;have HW:=aA (show Fr NoT w7 (w7.alloc (.cells #[.int .u8 0,.string ⟨#[]⟩,.int .i64 0,.slice none 0 0,.int .i64 0] 175))from aH.alloc _);have Zw:=Lt.row.lt;clear hX hv hp hf Hs Lt;dsimp only)
      |(refine zbm _ _ _ (by rfl) ?_
        go_simp;go_at_call 247
        with_reducible refine(PW.out (w4.alloc (.cells #[.int .u8 0,.string ⟨#[]⟩,.int .i64 0,.slice none 0 0,.int .i64 0] 175)).drew (Fr.drew (aH.alloc _))).mono ?_
        intro e w7 hE;rcases hE.ways with⟨x,r3,A,c,hX,rfl,hv,hp,hf⟩|⟨c,a2,hX,rfl,hf⟩;case inr=>exact⟨rfl,by rw[K6.out,hX];exact za3 (MC.fr.trans (PT.l ((Fr.drew ((Fr.refl C.T w4).alloc _)).trans hf)))⟩
        have Jo:Fr C.T w4 (w4.alloc (.cells zeroEx 175)).drew :=Fr.drew ((Fr.refl C.T w4).alloc _);have Hs:Fr C.T w4 w7:=Jo.trans hf;have Lt:=MC.next HL.out Hs hp;have xL:=Lt.st.cell 2;have uH:=Lt.st.frozen 2;have MV:=Hs.size;have TV:w.heap.size+1 < w7.heap.size:=by omega
        simp only[aD]at xL;have HX:=aA hX;have HV:=aA (hv.low (L':=w4.heap.size) Jo.size);have HP:=aA hp;have Fp:=aA Hs;have Nz:=aA Lt;have Kl:=aA (((show Bk (w4.alloc (.cells zeroEx 175)).drew w4.heap.size 175 zeroEx from Bk.new _ _ _).fr hf (λe=>by have e:w4.heap.size=C.P:=e;have:=HL.1;omega))).news;have HW:=aA (Fr.refl NoT w7);have Zw:=Lt.row.lt;clear hX hv hp hf Hs Lt Jo;dsimp only)
      |(refine step_append_lies _ (by rfl) _ _ _ (by rfl) (w.heap.size+2) 175 i0 (.agg zeroEx) 5 64 Tryz.underlying48 HI.1 HI.2.1 HI.2.2.1 HI.2.2.2 rfl (by decide) (.slice none 0 0) 0 [] (by rfl) Nz.row ⟨w7.heap.size,0,none⟩ 1 1 zeroEx.toList (by rfl) (by rfl) Kl.out (by simp[zeroEx,Value.oneCell']) (by omega) (by decide) (by decide) (by rw[World.size_alloc];omega) (w7.heap.size+1) (World.size_alloc _ _) ?_
        intro gg cap w9 Ha Hf GN Hk;have Wj:=Ha.lt gg rfl;obtain⟨c0,c1,c2,c3,c4,cf⟩:=zcQ (n:=0) Ha (by rfl);simp only[Nat.zero_mul,Nat.one_mul,Nat.zero_add,Nat.reduceAdd,Nat.reduceMul]at c0 c1 c2 c3 c4;have xU:=cf 0;have xV:=cf 1;have xW:=cf 2;have xX:=cf 3;have xY:=cf 4;have TW:w9.cell? ⟨w.heap.size+1,2,none⟩=some (.slice none 0 0):=(Hf.cell_far ⟨w.heap.size+1,2,none⟩ (by show w.heap.size+1 < _;rw[World.size_alloc];omega) (by simp[Value.ownBlock])).trans (Nz.st.cell 2);have TX:w9.frozen? ⟨w.heap.size+1,2,none⟩=false:=(Hf.frozen_far ⟨w.heap.size+1,2,none⟩ (by show w.heap.size+1 < _;rw[World.size_alloc];omega) (by simp[Value.ownBlock])).trans (Nz.st.frozen 2);have Pw:¬w.heap.size+1=gg:=by omega
        have FG:¬gg=w.heap.size+1:=by omega
        have HE:=aA (λw10 Jj=>SetX.stepN (w10:=w10) (o0:=0) (o1:=1) (o2:=2) (o3:=3) (o4:=4) (m:=1) ⟨rfl,rfl,rfl,rfl,rfl,rfl⟩ HL.out (by unfold in8;omega) S4.out MC.out HV.out HP.out Fp.out _ HW.out Ha Hf (GN.imp id λe=>by rw[World.size_alloc];exact e) Jj);clear Ha cf Hf GN)
      |(refine step_append_lies _ (by rfl) _ _ _ (by rfl) (w.heap.size+2) 175 i0 (.agg zeroEx) 5 64 Tryz.underlying48 HI.1 HI.2.1 HI.2.2.1 HI.2.2.2 rfl (by decide) (.slice none 0 0) 0 [] (by rfl) Nz.row ⟨w4.heap.size,0,none⟩ 1 1 zeroEx.toList (by rfl) (by rfl) Kl.out (by simp[zeroEx,Value.oneCell']) (by omega) (by decide) (by decide) (by omega) w7.heap.size rfl ?_
        intro gg cap w9 Ha Hf GN Hk;have Wj:=Ha.lt gg rfl;obtain⟨c0,c1,c2,c3,c4,cf⟩:=zcQ (n:=0) Ha (by rfl);simp only[Nat.zero_mul,Nat.one_mul,Nat.zero_add,Nat.reduceAdd,Nat.reduceMul]at c0 c1 c2 c3 c4;have xU:=cf 0;have xV:=cf 1;have xW:=cf 2;have xX:=cf 3;have xY:=cf 4;have TW:w9.cell? ⟨w.heap.size+1,2,none⟩=some (.slice none 0 0):=(Hf.cell_far ⟨w.heap.size+1,2,none⟩ (by show w.heap.size+1 < _;omega) (by simp[Value.ownBlock])).trans (Nz.st.cell 2);have TX:w9.frozen? ⟨w.heap.size+1,2,none⟩=false:=(Hf.frozen_far ⟨w.heap.size+1,2,none⟩ (by show w.heap.size+1 < _;omega) (by simp[Value.ownBlock])).trans (Nz.st.frozen 2);have Pw:¬w.heap.size+1=gg:=by omega
        have FG:¬gg=w.heap.size+1:=by omega
        have HE:=aA (λw10 Jj=>SetX.stepN (w10:=w10) (o0:=0) (o1:=1) (o2:=2) (o3:=3) (o4:=4) (m:=1) ⟨rfl,rfl,rfl,rfl,rfl,rfl⟩ HL.out (by unfold in8;omega) S4.out MC.out HV.out HP.out Fp.out _ HW.out Ha Hf GN Jj);clear Ha cf Hf GN))
    all_goals
     have Km:=K6.out;rw[HX.out]at Km;replace Km:R=endS ⟨2,nm,za0 (([]:List Ex)++ [x]),.nil,.nil,.nil,a⟩ r3:=Km;have MQ:=aA Km;clear Km;go_wp2_with fail
     go_meet
     first
      |exact⟨_,_,_,aA ⟨MQ.out,HE _ (.inl (by with_reducible rfl))⟩⟩
      |exact⟨_,_,_,aA ⟨MQ.out,HE _ (.inr (by with_reducible rfl))⟩⟩
   case rest=>
    obtain⟨xs,pl,r3,Lu⟩:=hcut;have MQ:=aA Lu.1;have HY:=aA Lu.2;have TY:=aA (zau C [59] r3 d wc.heap.size _ HK.out (HY.pa.alloc (.cells #[.string ⟨#[59]⟩] 9)) (by decide) (by simp));have Wk:=aA (show Fr C.T wc (wc.alloc (.cells #[.string ⟨#[59]⟩] 9))from aH.alloc _);clear Lu s2 z2;go_wp2_with fail;refine TY.mono ?_;intro e xt hE;rcases hE with⟨ht,rfl,hp,hf⟩|⟨ht,rfl,hf⟩;rotate_left
    ·go_wp2_with fail;exact⟨rfl,by rw[MQ.out,endS,ht];exact za3 (HY.fr.trans (PT.l (Wk.trans hf)))⟩
    have hy:=HY.next HL.out (Wk.trans hf) hp;have hb:=hy.st;have Gr:=hy.res;have b0:=hb.cell 0;have b1:=hb.cell 1;have b2:=hb.cell 2;have b3:=hb.cell 3;have b4:=hb.cell 4;have b5:=hb.cell 5;have b6:=hb.cell 6;have o0:=Gr.cell 0;have o1:=Gr.cell 1;have o2:=Gr.cell 2;have o3:=Gr.cell 3;have o4:=Gr.cell 4;have o5:=Gr.cell 5;have o6:=Gr.cell 6;have y0:=Gr.frozen 0;have y1:=Gr.frozen 1;have y2:=Gr.frozen 2;have y3:=Gr.frozen 3;have y4:=Gr.frozen 4;have y5:=Gr.frozen 5;have y6:=Gr.frozen 6;simp only[stC,zeroSt,List.getElem?_toArray,List.getElem?_cons_succ,List.getElem?_cons_zero]at b0 b1 b2 b3 b4 b5 b6 o0 o1 o2 o3 o4 o5 o6;have Mo:=Gr.lt;have TZ:=aA hy;have Zx:=aA ht;clear hy hb Gr ht hp hf;go_wp2_with fail;refine bodyPost_ret (v:= .agg #[.int .u8 xs.k,.string xs.nm,.slice pl.A xs.args.len pl.c,.slice pl.B xs.cond.len pl.q,.slice pl.D xs.body.len pl.e,.slice pl.E xs.els.len pl.f,.int .i64 xs.at_]) (by simp[results,Tryz.results206,go_sem,o0,o1,o2,o3,o4,o5,o6,Mo]) rfl ?_;rw[MQ.out,endS,Zx.out];exact zfN HL.out TZ.hs TZ.pa TZ.fr rfl
  ·have hi:=zcv C [91] r d w11.heap.size _ (KZ.pa.alloc (.cells #[.string ⟨#[91]⟩] 9)) hm (by simp);unfold pP at hi;have JJ:=KZ.alloc HL.out (.cells #[.string ⟨#[91]⟩] 9);have Zy:=ziY C n r d _ MT.out HK.out JJ.pa;have MU:(w11.alloc (.cells #[.string ⟨#[91]⟩] 9)).heap.size =w10.heap.size+1:=by simp[Pv]
   rw[Pv,Kh]at hi;rw[Kh]at Zy;have TH:=aA hi;have Y3:=aA Zy;have Fe:=aA (show R=(za7 n r).then λi r=>setE n 3 nm a [i] r from by rw[GF.out,setO,hm];rfl);have QM:=aA JJ;have RX:=aA Kh;have MB:=aA MU;clear Kh KZ Pv hi hm JJ Zy MU;go_wp2_with fail;refine TH.mono ?_;rintro _ xt ⟨rfl,rfl⟩;go_wp2_with fail;refine Y3.mono ?_;intro e xw hE;rw[<-RX.out]at hE;rcases hE.ways with⟨i,r2,A0,q0,hI,rfl,hv,hp,hf⟩|⟨c,a2,hI,rfl,hf⟩;rotate_left
   ·go_wp2_with fail;exact⟨rfl,by rw[Fe.out,hI];exact za3 (QM.fr.trans (PT.l hf))⟩
   have GM:=Fe.out;rw[hI]at GM;replace GM:R=setE n 3 nm a [i] r2:=GM;have Fe:=aA GM;have QN:=QM.next HL.out hf hp;have u0:=QN.st.cell 0;have u2:=QN.st.cell 2;have v0:=QN.st.frozen 0;have v2:=QN.st.frozen 2;simp only[aD]at u0 u2;obtain⟨WT,Fs⟩:=aF (((xw.setCell ⟨w.heap.size+1,0,none⟩ (.int .u8 3)).setCell ⟨w.heap.size+1,2,none⟩ (.slice (some ⟨xw.heap.size,0,none⟩) 1 1)).alloc (.cells #[.int .u8 i.k,.string i.nm,.int .i64 i.n,.slice A0 i.args.len q0,.int .i64 i.at_] 175));have JJ:=SetX.index HL.out QM.out hf hp hv Fs;have MU:WT.heap.size=xw.heap.size+1:=by rw[Fs];simp
   have vt:w10.heap.size+1<=xw.heap.size:=by have:=hf.size;have:=MB.out;omega
   have Zr:=aA (show w10.heap.size<=WT.heap.size by omega);have MB:=aA MU;have jI:w.heap.size+1 < xw.heap.size:=by have:=Ki.out;omega
   clear hI hv hp hf GM QN MU;have Wi:=MB.out;have ht:=zau C [61] r2 d WT.heap.size _ HK.out (JJ.pa.alloc (.cells #[.string ⟨#[61]⟩] 9)) (by decide) (by simp);have TU:=aA (JJ.alloc HL.out (.cells #[.string ⟨#[61]⟩] 9));rw[Wi,Fs]at ht;have Zt:=aA Fs;have HT:=aA ht;clear JJ ht Wi Fs;go_wp2_with fail;refine HT.mono ?_;intro e w4 hE;rw[<-Zt.out]at hE;rcases hE with⟨ht,rfl,hp,hf⟩|⟨ht,rfl,hf⟩;rotate_left
   ·go_wp2_with fail;exact⟨rfl,by rw[Fe.out,setE,ht];exact za3 (TU.fr.trans (PT.l hf))⟩
   have Kf:=Fe.out;rw[setE,ht]at Kf;replace Kf:R=(zaO n r2.tail).then λe r=>endS ⟨3,nm,za0 ([i]++ [e]),.nil,.nil,.nil,a⟩ r:=Kf;have K6:=aA Kf;have LN:=TU.next HL.out hf hp;have PW:=aA (λW (hW:Fr NoT w4 W)=>zb5 C n r2.tail d W MT.out HK.out (LN.pa.fr hW id id λ_ _=>id));have Zu:w.heap.size+2<=w4.heap.size:=aK Ki.out (aK (by rw[World.size_alloc];exact aK Zr.out (Nat.le_succ _)) hf.size);have Zv:w.heap.size+1 < w4.heap.size:=by omega
   have s2:=LN.st.cell 2;have z2:=LN.st.frozen 2;simp only[aD]at s2;have MC:=aA LN;clear ht hp hf Kf LN;go_wp2_with fail;go_cut [60] (λDG wx=>∃(xs:St)(pl:Loc)(r3:List Tk),Hid (R=endS xs r3/\SetY C w d xs pl r3 wx));case first=>
    go_region_law
     (first
      |(refine zbm _ _ _ (by rfl) ?_
        go_simp;go_at_call 247
        with_reducible refine(PW.out w4.drew (Fr.drew aH)).mono ?_
        intro e w7 hE;rcases hE.ways with⟨x,r3,A,c,hX,rfl,hv,hp,hf⟩|⟨c,a2,hX,rfl,hf⟩;case inr=>exact⟨rfl,by rw[K6.out,hX];exact za3 (MC.fr.trans (PT.l ((Fr.drew (Fr.refl C.T w4)).trans hf)))⟩
        have Hs:Fr C.T w4 w7:=(Fr.drew (Fr.refl C.T w4)).trans hf;have Lt:=MC.next HL.out Hs hp;have xL:=Lt.st.cell 2;have uH:=Lt.st.frozen 2;have MV:=Hs.size;have TV:w.heap.size+1 < w7.heap.size:=by omega
        simp only[aD]at xL;have HX:=aA hX;have HV:=aA hv;have HP:=aA hp;have Fp:=aA Hs;have Nz:=aA (Lt.alloc HL.out (.cells #[.int .u8 0,.string ⟨#[]⟩,.int .i64 0,.slice none 0 0,.int .i64 0] 175));have Kl:=aA (Bk.new w7 175 zeroEx).news;have HW:=aA (show Fr NoT w7 (w7.alloc (.cells #[.int .u8 0,.string ⟨#[]⟩,.int .i64 0,.slice none 0 0,.int .i64 0] 175))from aH.alloc _);have Zw:=Lt.row.lt;clear hX hv hp hf Hs Lt;dsimp only)
      |(refine zbm _ _ _ (by rfl) ?_
        go_simp;go_at_call 247
        with_reducible refine(PW.out (w4.alloc (.cells #[.int .u8 0,.string ⟨#[]⟩,.int .i64 0,.slice none 0 0,.int .i64 0] 175)).drew (Fr.drew (aH.alloc _))).mono ?_
        intro e w7 hE;rcases hE.ways with⟨x,r3,A,c,hX,rfl,hv,hp,hf⟩|⟨c,a2,hX,rfl,hf⟩;case inr=>exact⟨rfl,by rw[K6.out,hX];exact za3 (MC.fr.trans (PT.l ((Fr.drew ((Fr.refl C.T w4).alloc _)).trans hf)))⟩
        have Jo:Fr C.T w4 (w4.alloc (.cells zeroEx 175)).drew :=Fr.drew ((Fr.refl C.T w4).alloc _);have Hs:Fr C.T w4 w7:=Jo.trans hf;have Lt:=MC.next HL.out Hs hp;have xL:=Lt.st.cell 2;have uH:=Lt.st.frozen 2;have MV:=Hs.size;have TV:w.heap.size+1 < w7.heap.size:=by omega
        simp only[aD]at xL;have HX:=aA hX;have HV:=aA (hv.low (L':=w4.heap.size) Jo.size);have HP:=aA hp;have Fp:=aA Hs;have Nz:=aA Lt;have Kl:=aA (((show Bk (w4.alloc (.cells zeroEx 175)).drew w4.heap.size 175 zeroEx from Bk.new _ _ _).fr hf (λe=>by have e:w4.heap.size=C.P:=e;have:=HL.1;omega))).news;have HW:=aA (Fr.refl NoT w7);have Zw:=Lt.row.lt;clear hX hv hp hf Hs Lt Jo;dsimp only)
      |(refine step_append_lies _ (by rfl) _ _ _ (by rfl) (w.heap.size+2) 175 i0 (.agg zeroEx) 5 64 Tryz.underlying48 HI.1 HI.2.1 HI.2.2.1 HI.2.2.2 rfl (by decide) (.slice (some ⟨xw.heap.size,0,none⟩) 1 1) 1 (exC i A0 q0) (by rfl) Nz.row ⟨w7.heap.size,0,none⟩ 1 1 zeroEx.toList (by rfl) (by rfl) Kl.out (by simp[zeroEx,Value.oneCell']) (by omega) (by decide) (by decide) (by rw[World.size_alloc];omega) (w7.heap.size+1) (World.size_alloc _ _) ?_
        intro gg cap w9 Ha Hf GN Hk;have Wj:=Ha.lt gg rfl;obtain⟨c0,c1,c2,c3,c4,cf⟩:=zcQ (n:=1) Ha (by rfl);simp only[Nat.zero_mul,Nat.one_mul,Nat.zero_add,Nat.reduceAdd,Nat.reduceMul]at c0 c1 c2 c3 c4;have xU:=cf 5;have xV:=cf 6;have xW:=cf 7;have xX:=cf 8;have xY:=cf 9;have TW:w9.cell? ⟨w.heap.size+1,2,none⟩=some (.slice (some ⟨xw.heap.size,0,none⟩) 1 1):=(Hf.cell_far ⟨w.heap.size+1,2,none⟩ (by show w.heap.size+1 < _;rw[World.size_alloc];omega) (by simp[Value.ownBlock];omega)).trans (Nz.st.cell 2);have TX:w9.frozen? ⟨w.heap.size+1,2,none⟩=false:=(Hf.frozen_far ⟨w.heap.size+1,2,none⟩ (by show w.heap.size+1 < _;rw[World.size_alloc];omega) (by simp[Value.ownBlock];omega)).trans (Nz.st.frozen 2);have Pw:¬w.heap.size+1=gg:=by omega
        have FG:¬gg=w.heap.size+1:=by omega
        have HE:=aA (λw10 Jj=>SetX.stepN (w10:=w10) (o0:=5) (o1:=6) (o2:=7) (o3:=8) (o4:=9) (m:=2) ⟨rfl,rfl,rfl,rfl,rfl,rfl⟩ HL.out (by unfold in8;omega) S4.out MC.out HV.out HP.out Fp.out _ HW.out Ha Hf (GN.imp id λe=>by rw[World.size_alloc];exact e) Jj);clear Ha cf Hf GN)
      |(refine step_append_lies _ (by rfl) _ _ _ (by rfl) (w.heap.size+2) 175 i0 (.agg zeroEx) 5 64 Tryz.underlying48 HI.1 HI.2.1 HI.2.2.1 HI.2.2.2 rfl (by decide) (.slice (some ⟨xw.heap.size,0,none⟩) 1 1) 1 (exC i A0 q0) (by rfl) Nz.row ⟨w4.heap.size,0,none⟩ 1 1 zeroEx.toList (by rfl) (by rfl) Kl.out (by simp[zeroEx,Value.oneCell']) (by omega) (by decide) (by decide) (by omega) w7.heap.size rfl ?_
        intro gg cap w9 Ha Hf GN Hk;have Wj:=Ha.lt gg rfl;obtain⟨c0,c1,c2,c3,c4,cf⟩:=zcQ (n:=1) Ha (by rfl);simp only[Nat.zero_mul,Nat.one_mul,Nat.zero_add,Nat.reduceAdd,Nat.reduceMul]at c0 c1 c2 c3 c4;have xU:=cf 5;have xV:=cf 6;have xW:=cf 7;have xX:=cf 8;have xY:=cf 9;have TW:w9.cell? ⟨w.heap.size+1,2,none⟩=some (.slice (some ⟨xw.heap.size,0,none⟩) 1 1):=(Hf.cell_far ⟨w.heap.size+1,2,none⟩ (by show w.heap.size+1 < _;omega) (by simp[Value.ownBlock];omega)).trans (Nz.st.cell 2);have TX:w9.frozen? ⟨w.heap.size+1,2,none⟩=false:=(Hf.frozen_far ⟨w.heap.size+1,2,none⟩ (by show w.heap.size+1 < _;omega) (by simp[Value.ownBlock];omega)).trans (Nz.st.frozen 2);have Pw:¬w.heap.size+1=gg:=by omega
        have FG:¬gg=w.heap.size+1:=by omega
        have HE:=aA (λw10 Jj=>SetX.stepN (w10:=w10) (o0:=5) (o1:=6) (o2:=7) (o3:=8) (o4:=9) (m:=2) ⟨rfl,rfl,rfl,rfl,rfl,rfl⟩ HL.out (by unfold in8;omega) S4.out MC.out HV.out HP.out Fp.out _ HW.out Ha Hf GN Jj);clear Ha cf Hf GN))
    all_goals
     have Km:=K6.out;rw[HX.out]at Km;replace Km:R=endS ⟨3,nm,za0 ([i]++ [x]),.nil,.nil,.nil,a⟩ r3:=Km;have MQ:=aA Km;clear Km;go_wp2_with fail
     go_meet
     first
      |exact⟨_,_,_,aA ⟨MQ.out,HE _ (.inl (by with_reducible rfl))⟩⟩
      |exact⟨_,_,_,aA ⟨MQ.out,HE _ (.inr (by with_reducible rfl))⟩⟩
   case rest=>
    obtain⟨xs,pl,r3,Lu⟩:=hcut;have MQ:=aA Lu.1;have HY:=aA Lu.2;have TY:=aA (zau C [59] r3 d wc.heap.size _ HK.out (HY.pa.alloc (.cells #[.string ⟨#[59]⟩] 9)) (by decide) (by simp));have Wk:=aA (show Fr C.T wc (wc.alloc (.cells #[.string ⟨#[59]⟩] 9))from aH.alloc _);clear Lu s2 z2;go_wp2_with fail;refine TY.mono ?_;intro e xt hE;rcases hE with⟨ht,rfl,hp,hf⟩|⟨ht,rfl,hf⟩;rotate_left
    ·go_wp2_with fail;exact⟨rfl,by rw[MQ.out,endS,ht];exact za3 (HY.fr.trans (PT.l (Wk.trans hf)))⟩
    have hy:=HY.next HL.out (Wk.trans hf) hp;have hb:=hy.st;have Gr:=hy.res;have b0:=hb.cell 0;have b1:=hb.cell 1;have b2:=hb.cell 2;have b3:=hb.cell 3;have b4:=hb.cell 4;have b5:=hb.cell 5;have b6:=hb.cell 6;have o0:=Gr.cell 0;have o1:=Gr.cell 1;have o2:=Gr.cell 2;have o3:=Gr.cell 3;have o4:=Gr.cell 4;have o5:=Gr.cell 5;have o6:=Gr.cell 6;have y0:=Gr.frozen 0;have y1:=Gr.frozen 1;have y2:=Gr.frozen 2;have y3:=Gr.frozen 3;have y4:=Gr.frozen 4;have y5:=Gr.frozen 5;have y6:=Gr.frozen 6;simp only[stC,zeroSt,List.getElem?_toArray,List.getElem?_cons_succ,List.getElem?_cons_zero]at b0 b1 b2 b3 b4 b5 b6 o0 o1 o2 o3 o4 o5 o6;have Mo:=Gr.lt;have TZ:=aA hy;have Zx:=aA ht;clear hy hb Gr ht hp hf;go_wp2_with fail;refine bodyPost_ret (v:= .agg #[.int .u8 xs.k,.string xs.nm,.slice pl.A xs.args.len pl.c,.slice pl.B xs.cond.len pl.q,.slice pl.D xs.body.len pl.e,.slice pl.E xs.els.len pl.f,.int .i64 xs.at_]) (by simp[results,Tryz.results206,go_sem,o0,o1,o2,o3,o4,o5,o6,Mo]) rfl ?_;rw[MQ.out,endS,Zx.out];exact zfN HL.out TZ.hs TZ.pa TZ.fr rfl
theorem zmM (C:Pcx)(n:Nat)(Hr:BlkC C n)(l:List Tk)(d:Nat)(w:World)(Ga:d+n=24)(hk:C.Ok)(h:PaAt C w l d):
  Calls Tryz.prog 206 #[.pointer (some ⟨C.P,0,none⟩)] w (EndV C d zi7 (zaz (zag n) n l) w):=by
 by_cases h0:keyK (hdT l).text =0
 ·exact zmL C n l d w _ rfl h0 Ga hk h
 ·exact zkA C n Hr l d w _ rfl h0 Ga hk h
theorem PaAt.ended {C:Pcx}{w:World}{l:List Tk}{d:Nat}(h:PaAt C w l d)(hk:C.Ok):Ended l:=by
 obtain⟨j,q,e,_⟩:=h.at_;have hlen:=List.length_pos_iff.2 h.ne;rw[e,List.length_drop]at hlen;obtain⟨z,hz⟩:∃z,C.all[C.all.length - 1]?=some z:=⟨_,List.getElem?_eq_getElem (by omega)⟩;have hd:=hk.ends _ z hz (by omega);rcases List.eq_nil_or_concat l with rfl|⟨s,y,rfl⟩
 ·exact absurd rfl h.ne
 ·refine⟨s,y,by simp,λhl=>?_⟩;have hy:(C.all.drop j)[C.all.length - j - 1]?=some y:=by
   rw[<-e];have:C.all.length - j - 1=s.length:=by
    have:=congrArg List.length e;simp at this;omega
   rw[this];simp
  rw[List.getElem?_drop,show j+(C.all.length - j - 1)=C.all.length - 1 from by omega,hz]at hy;rw[<-Option.some.inj hy]at hl;exact hl hd
theorem zif {C:Pcx}{d:Nat}{r:PR St}{W w':World}{e:Ending}(h:EndV C d zi7 r W e w'):
  (∃(x:St)(l:List Tk)(p:Loc),r= .ok x l/\e= .returned (.agg #[.int .u8 x.k,.string x.nm,.slice p.A x.args.len p.c,.slice p.B x.cond.len p.q,.slice p.D x.body.len p.e,.slice p.E x.els.len p.f,.int .i64 x.at_])/\StS w' (New W.heap.size w') x p/\PaAt C w' l d/\Fr C.T W w')\/
   ∃c a,r= .err c a/\e= .panicked [{v:= .iface 161 (.agg #[.int .i64 c,.int .i64 a]),recovered:=false}]/\Fr C.T W w':=by
 unfold EndV at h;cases r with
 |err c a=>exact .inr ⟨c,a,rfl,h⟩
 |ok x l=>
  obtain⟨v,rfl,⟨p,rfl,hs⟩,hp,hf⟩:=h;exact .inl ⟨x,l,p,rfl,rfl,hs,hp,hf⟩
theorem zgE {w:World}{base:Nat}{e:TypeId}{size:Nat}{v:Value}{n:Nat}{xs:List Value}(h:w.ownsRow base e size v n xs):∃A c,v= .slice A n c/\n<=c/\c<=9223372036854775807:=by
 rcases h.2 with⟨rfl,rfl⟩|⟨g,cap,cur,rfl,_,_,h1,h2,_⟩
 ·exact⟨none,0,rfl,aL _,by decide⟩
 ·exact⟨_,_,rfl,h1,by unfold maxLen at h2;omega⟩
theorem zgF {w:World}{base:Nat}{e:TypeId}{g cap n:Nat}{cs:List Value}(h:w.ownsRow base e 7 (.slice (some ⟨g,0,none⟩) (n+1) cap) (n+1) (cs++zeroSt.toList))(hl:cs.length=n*7):
  w.cell? ⟨g,n*7,none⟩=some (.int .u8 0)/\w.cell? ⟨g,n*7+1,none⟩=some (.string ⟨#[]⟩)/\w.cell? ⟨g,n*7+2,none⟩=some (.slice none 0 0)/\w.cell? ⟨g,n*7+3,none⟩=some (.slice none 0 0)/\w.cell? ⟨g,n*7+4,none⟩=some (.slice none 0 0)/\w.cell? ⟨g,n*7+5,none⟩=some (.slice none 0 0)/\w.cell? ⟨g,n*7+6,none⟩=some (.int .i64 0)/\∀j,w.frozen? ⟨g,j,none⟩=false:=by
 have key:∀j,j < 7->w.cell? ⟨g,n*7+j,none⟩=zeroSt.toList[j]?:=λj hj=>by
  rw[h.cellAt (n*7+j) (by omega),List.getElem?_append_right (by omega),hl,Nat.add_sub_cancel_left]
 exact⟨key 0 (by omega),key 1 (by omega),key 2 (by omega),key 3 (by omega),key 4 (by omega),key 5 (by omega),key 6 (by omega),λj=>h.frozenAt j⟩
theorem BlkX.stepN {C:Pcx}{w wr w7 w9:World}{d:Nat}{R:PR (List St)}{one:List Tk->PR St}{lb pb f:Nat}{v:Value}{acc:List St}{cs:List Value}{r r2:List Tk}{x:St}{p:Loc}{g cap m:Nat}(hm:m=acc.length)
  (hL:C.P < w.heap.size/\C.TB < w.heap.size/\C.W0.heap.size<=w.heap.size) (Vo:lb < w.heap.size) (RY:lb≠C.P) (Vp:lb≠C.TB) (Nx:C.W0.heap.size<=lb)
  (hx:BlkX C w d R one lb pb v wr acc cs r) (hR:R=zbi one f (acc++ [x]) r2) (RZ:r2.length<=f) (GT:r2.length < r.length)
  (hv:StS w7 (New wr.heap.size w7) x p) (hp:PaAt C w7 r2 d) (hf:Fr C.T wr w7) (W:World) (Kx:Fr NoT w7 W)
  (Ha:w9.ownsRow w.heap.size 51 7 (.slice (some ⟨g,0,none⟩) (m+1) cap) (m+1) (cs++zeroSt.toList))
  (hg:W.grownBy w9 v.ownBlock) (GN:v.ownBlock=some g\/g=W.heap.size) (w10:World)
  (Gy:w10=(((((((w9.setCell ⟨g,m*7,none⟩ (.int .u8 x.k)).setCell ⟨g,m*7+1,none⟩ (.string x.nm)).setCell ⟨g,m*7+2,none⟩ (.slice p.A x.args.len p.c)).setCell ⟨g,m*7+3,none⟩ (.slice p.B x.cond.len p.q)).setCell ⟨g,m*7+4,none⟩ (.slice p.D x.body.len p.e)).setCell ⟨g,m*7+5,none⟩ (.slice p.E x.els.len p.f)).setCell ⟨g,m*7+6,none⟩ (.int .i64 x.at_)).setCell ⟨lb,0,none⟩ (.slice (some ⟨g,0,none⟩) (m+1) cap)\/
   w10=(((((((w9.setCell ⟨lb,0,none⟩ (.slice (some ⟨g,0,none⟩) (m+1) cap)).setCell ⟨g,m*7,none⟩ (.int .u8 x.k)).setCell ⟨g,m*7+1,none⟩ (.string x.nm)).setCell ⟨g,m*7+2,none⟩ (.slice p.A x.args.len p.c)).setCell ⟨g,m*7+3,none⟩ (.slice p.B x.cond.len p.q)).setCell ⟨g,m*7+4,none⟩ (.slice p.D x.body.len p.e)).setCell ⟨g,m*7+5,none⟩ (.slice p.E x.els.len p.f)).setCell ⟨g,m*7+6,none⟩ (.int .i64 x.at_)):
  BlkX C w d R one lb pb (.slice (some ⟨g,0,none⟩) (acc.length+1) cap) w10 (acc++ [x]) (cs++stC x p) r2:=by
 subst hm;have GY:=Ha.lt g rfl;refine BlkX.step hL Vo RY Vp Nx hx hR RZ GT hv hp hf W Kx Ha hg GN w10 ?_;rcases Gy with h|h
 ·exact h
 ·have Gh:∀j,(⟨lb,0,none⟩:Addr).block ≠(⟨g,j,none⟩:Addr).block :=λj e=>by
   have e:lb=g:=e;omega
  rw[h,zat (Gh _),zat (Gh _),zat (Gh _),zat (Gh _),zat (Gh _),zat (Gh _),zat (Gh _)]
theorem BlkX.next {C:Pcx}{w wr w2:World}{d:Nat}{R:PR (List St)}{one:List Tk->PR St}{lb pb:Nat}{v:Value}{acc:List St}{cs:List Value}{r:List Tk}(hL:C.P < w.heap.size)(RY:lb≠C.P)(hx:BlkX C w d R one lb pb v wr acc cs r)(hf:Fr C.T wr w2)(hp:PaAt C w2 r d):BlkX C w d R one lb pb v w2 acc cs r:=
 ⟨hx.eq,hx.lcell.fr hf RY,zah hx.row hf hL,hx.rows.imp (hf.same λb hb=>⟨hb.2.1,λe=>by have e:b=C.P:=e;have:=hb.1;omega⟩) (λb hb=>⟨hb.1,aM hb.2.1 hf.size,hb.2.2⟩),hx.few,hp,hx.fr.trans (PT.l hf)⟩
theorem zig {C:Pcx}{w wr W:World}{d:Nat}{R:PR (List St)}{one:List Tk->PR St}{lb pb:Nat}{v v':Value}{acc uI:List St}{cs xh:List Value}{r r':List Tk}(h:BlkX C w d R one lb pb v' W uI xh r')(hx:BlkX C w d R one lb pb v wr acc cs r)(hl:r'.length < r.length):lenP C W < lenP C wr:=by
 rw[h.pa.lenP,hx.pa.lenP];exact hl
def BlbP (C:Pcx)(lb d:Nat)(r:PR (List St))(W:World)(e:Ending)(w':World):Prop:=
 match r with
 | .err c a=>e=zaf c a/\Fr (PT C lb) W w'
 | .ok xs l=>e= .returned (.tuple #[])/\(∃v,Bk w' lb 25 #[v]/\StlV w' W.heap.size v xs)/\PaAt C w' l d/\Fr (PT C lb) W w'
theorem zi9 (C:Pcx)(n:Nat)(Hr:BlkC C n)(l:List Tk)(d pb lb:Nat)(w:World)(Ga:d+n=24)(hk:C.Ok)(h:PaAt C w l d)(Ju:Bk w pb 162 #[.pointer (some ⟨C.P,0,none⟩)])(KX:pb≠C.P)(Gt:pb≠lb)
  (T0:Bk w lb 25 #[.slice none 0 0]) (RY:lb≠C.P) (Vp:lb≠C.TB) (Nx:C.W0.heap.size<=lb):
  Calls Tryz.prog 205 #[.pointer (some ⟨pb,0,none⟩),.pointer (some ⟨lb,0,none⟩)] w (BlbP C lb d (zbi (zaz (zag n) n) l.length [] l) w):=by
 obtain⟨i0,hi,Fg,Hw,G5⟩:=info_parts zkp;have HI:=aA (aG hi (aG Fg (aG Hw G5)));obtain⟨R,hR⟩:=aF (zbi (zaz (zag n) n) l.length [] l);rw[<-hR];have hL:=h.lts;have FR:l.length<=5000:=by
  obtain⟨j,q,e,_⟩:=h.at_;have:=hk.few;rw[e,List.length_drop];omega
 have Vo:=T0.lt;have Lv:BlkX C w d R (zaz (zag n) n) lb pb (.slice none 0 0) w [] [] l:=⟨⟨_,hR,aL _⟩,T0,World.ownsRow_nil _ _ _ _,rfl,by simpa using FR,h,aH⟩;have Gb:=aA Lv;have HK:=aA hk;have HL:=aA hL;have QO:=aA (λ(l:List Tk)(W:World)(hW:PaAt C W l d)=>zmM C n Hr l d W Ga hk hW);have L7:=aA Ju;have vu:=aA (λ(r:List Tk)(W:World)(hp:PaAt C W r d)=>hp.ended hk);have HN:=aA (aG KX (aG Gt (aG RY (aG Vp (aG Nx Vo)))));clear hR h hk hL FR Lv Hr Ju T0 hi Fg Hw G5 KX Gt RY Vp Nx Vo;go_enter Tryz.func205,Tryz.ntmps205;go_wp2_with fail;go_loopw [2] (λ_ wr=>∃(v:Value)(acc:List St)(cs:List Value)(r:List Tk),Hid (BlkX C w d R (zaz (zag n) n) lb pb v wr acc cs r)) (λ_ wr=>lenP C wr);case atStart=>exact⟨_, [], [],l,Gb⟩
 case round=>
  obtain⟨v,acc,cs,r,hx⟩:=hrel;have FF:=(L7.fr hx.fr (λe=>by rcases e with e|e;exact HN.1 e;exact HN.2.1 e)).cell 0;simp only[List.getElem?_toArray,List.getElem?_cons_zero]at FF;have HM:=aA (za1 C [125] r d wr HK.out hx.pa (by decide));go_wp2_with fail;refine HM.mono ?_;rintro _ w2 ⟨rfl,hp,hf⟩;obtain⟨f,Gs,G6⟩:=hx.eq;have F6:0 < r.length:=List.length_pos_iff.2 hx.pa.ne;obtain⟨f,rfl⟩:∃f',f=f'+1:=⟨f - 1,by omega⟩;unfold zbi at Gs;cases hm:mayB [125] r;rotate_left
  ·rw[hm]at Gs hp;replace hp:PaAt C w2 r.tail d:=hp;replace Gs:R= .ok acc r.tail:=Gs;have Jz:=aA Gs;have Hi:=zah hx.row hf HL.1;have N5:=hx.rows.imp (S':=λb=>w.heap.size<=b/\b < w2.heap.size) (hf.same λb hb=>⟨hb.2.1,λe=>by have e:b=C.P:=e;have:=hb.1;have:=HL.1;omega⟩) (λb hb=>⟨hb.1,aM hb.2.1 hf.size⟩);have Pf:=aA (zoO Hi N5 (λb hb=>hb) (by have:=hx.few;omega));have T1:=aA (hx.lcell.fr hf HN.2.2.1);have HP:=aA hp;have Ke:=aA (hx.fr.trans (PT.l hf));clear hp hf Gs Hi N5 hm;go_wp2_with fail;go_end0;rw[Jz.out];exact⟨rfl,⟨_,T1.out,Pf.out⟩,HP.out,Ke.out⟩
  ·rw[hm]at Gs hp;replace hp:PaAt C w2 r d:=hp;replace Gs:R=(zaz (zag n) n r).then λx r=>zbi (zaz (zag n) n) f (acc++ [x]) r:=Gs;have GK:=BlkX.next HL.1 HN.2.2.1 hx.out hf hp;obtain⟨pA,vc,rfl,Zz,zV⟩:=zgE GK.row;obtain⟨m,KN⟩:=aF acc.length;rw[<-KN]at GK;have QP:m<=5000:=by have:=GK.few;omega
   have GW:(0:Int)<=(m:Int):=by omega
   have Jn:(m:Int) < (m:Int)+1:=by omega
   have JY:(m:Int)+1<=9223372036854775807:=by omega
   have QQ:=GK.row;have GC:=GK.rows.len;have FM:=GK.lcell.cell 0;have vv:=GK.lcell.frozen 0;have ZA:=(L7.fr GK.fr (λe=>by rcases e with e|e;exact HN.1 e;exact HN.2.1 e)).cell 0;simp only[List.getElem?_toArray,List.getElem?_cons_zero]at FM ZA;rw[<-KN]at QQ GC;have T3:=aA (λW (hW:Fr NoT w2 W)=>QO r W (hp.fr hW id id λ_ _=>id));have N8:=aA GK;have Jz:=aA Gs;have MO:=aA KN;have K5:=aA G6;have NA:=aA (vu r w2 hp);have FP:=aA QQ;have JB:=aA GC;have Gc:w.heap.size<=w2.heap.size:=GK.fr.size;have vw:=HN.2.2.2.2.2;have vy:=L7.lt;have vz:lb < w2.heap.size:=by omega
   have Wl:pb < w2.heap.size:=by omega
   clear hp hf GK Gs KN G6 QQ GC hm FF;go_wp2_with fail
   go_region_law
    (first
     |(refine zbm _ _ _ (by rfl) ?_
       go_simp;go_at_call 206
       with_reducible refine(T3.out w2.drew (Fr.drew aH)).mono ?_
       intro e w7 hE;rcases zif hE with⟨x,r3,p,hX,rfl,hv,hp,hf⟩|⟨c,a2,hX,rfl,hf⟩;case inr=>exact⟨rfl,by rw[Jz.out,hX];exact⟨rfl,N8.fr.trans (PT.l ((Fr.drew (Fr.refl C.T w2)).trans hf))⟩⟩
       have Hs:Fr C.T w2 w7:=(Fr.drew (Fr.refl C.T w2)).trans hf;have MV:=Hs.size;have ZB:lb < w7.heap.size:=by omega
       have NB:=(N8.lcell.fr Hs HN.2.2.1).cell 0;have ZC:=(N8.lcell.fr Hs HN.2.2.1).frozen 0;simp only[List.getElem?_toArray,List.getElem?_cons_zero]at NB;have Fb:=(Hs.cell (p:=⟨pb,0,none⟩) Wl HN.1).trans ZA;have JK:pb < w7.heap.size:=by omega
       have HX:=aA hX;have HV:=aA hv;have HP:=aA hp;have Fp:=aA Hs;have S5:=aA ((zah FP.out Hs HL.1).alloc (.cells #[.int .u8 0,.string ⟨#[]⟩,.slice none 0 0,.slice none 0 0,.slice none 0 0,.slice none 0 0,.int .i64 0] 51));have Kl:=aA (Bk.new w7 51 zeroSt).news;have HW:=aA (show Fr NoT w7 (w7.alloc (.cells #[.int .u8 0,.string ⟨#[]⟩,.slice none 0 0,.slice none 0 0,.slice none 0 0,.slice none 0 0,.int .i64 0] 51))from aH.alloc _);have T1:=aA ((N8.lcell.fr Hs HN.2.2.1).alloc (.cells #[.int .u8 0,.string ⟨#[]⟩,.slice none 0 0,.slice none 0 0,.slice none 0 0,.slice none 0 0,.int .i64 0] 51));clear hX hv hp hf Hs;dsimp only)
     |(refine zbm _ _ _ (by rfl) ?_
       go_simp;go_at_call 206
       with_reducible refine(T3.out (w2.alloc (.cells #[.int .u8 0,.string ⟨#[]⟩,.slice none 0 0,.slice none 0 0,.slice none 0 0,.slice none 0 0,.int .i64 0] 51)).drew (Fr.drew (aH.alloc _))).mono ?_
       intro e w7 hE;rcases zif hE with⟨x,r3,p,hX,rfl,hv,hp,hf⟩|⟨c,a2,hX,rfl,hf⟩;case inr=>exact⟨rfl,by rw[Jz.out,hX];exact⟨rfl,N8.fr.trans (PT.l ((Fr.drew ((Fr.refl C.T w2).alloc _)).trans hf))⟩⟩
       have Jo:Fr C.T w2 (w2.alloc (.cells zeroSt 51)).drew :=Fr.drew ((Fr.refl C.T w2).alloc _);have Hs:Fr C.T w2 w7:=Jo.trans hf;have MV:=Hs.size;have ZB:lb < w7.heap.size:=by omega
       have NB:=(N8.lcell.fr Hs HN.2.2.1).cell 0;have ZC:=(N8.lcell.fr Hs HN.2.2.1).frozen 0;simp only[List.getElem?_toArray,List.getElem?_cons_zero]at NB;have Fb:=(Hs.cell (p:=⟨pb,0,none⟩) Wl HN.1).trans ZA;have JK:pb < w7.heap.size:=by omega
       have HX:=aA hX;have HV:=aA (hv.imp (S':=New w2.heap.size w7) (SameS.refl _ _) λb hb=>⟨aK Jo.size hb.1,hb.2⟩);have HP:=aA hp;have Fp:=aA Hs;have S5:=aA (zah FP.out Hs HL.1);have Kl:=aA (((show Bk (w2.alloc (.cells zeroSt 51)).drew w2.heap.size 51 zeroSt from Bk.new _ _ _).fr hf (λe=>by have e:w2.heap.size=C.P:=e;have:=HL.1;omega))).news;have HW:=aA (Fr.refl NoT w7);have T1:=aA (N8.lcell.fr Hs HN.2.2.1);clear hX hv hp hf Hs Jo;dsimp only)
     |(refine step_append_lies _ (by rfl) _ _ _ (by rfl) w.heap.size 51 i0 (.agg zeroSt) 7 128 Tryz.underlying25 HI.1 HI.2.1 HI.2.2.1 HI.2.2.2 rfl (by decide) (.slice pA m vc) m cs (by rfl) S5.out ⟨w7.heap.size,0,none⟩ 1 1 zeroSt.toList (by rfl) (by rfl) Kl.out (by simp[zeroSt,Value.oneCell']) (by omega) (by unfold maxLen;omega) (by omega) (by rw[World.size_alloc];omega) (w7.heap.size+1) (World.size_alloc _ _) ?_
       intro gg cap w9 Ha Hf GN Hk;have Wj:=Ha.lt gg rfl;obtain⟨c0,c1,c2,c3,c4,c5,c6,cf⟩:=zgF Ha JB.out;have xU:=cf (m*7);have xV:=cf (m*7+1);have xW:=cf (m*7+2);have xX:=cf (m*7+3);have xY:=cf (m*7+4);have Dh:=cf (m*7+5);have Di:=cf (m*7+6);have Lw:=S5.lt;have R0:=(Hf.cell_far ⟨lb,0,none⟩ (by show lb < _;rw[World.size_alloc];omega) (λe=>by have:=(Lw lb e.symm).1;omega)).trans (T1.cell 0);have NC:=(Hf.frozen_far ⟨lb,0,none⟩ (by show lb < _;rw[World.size_alloc];omega) (λe=>by have:=(Lw lb e.symm).1;omega)).trans (T1.frozen 0);simp only[List.getElem?_toArray,List.getElem?_cons_zero]at R0;have Pw:¬lb=gg:=by omega
       have FG:¬gg=lb:=by omega
       have F6:=zcy (zbL n) n NA.out HX.out;have HE:=aA (λw10 Jj=>BlkX.stepN (w10:=w10) (f:=f) MO.out HL.out HN.2.2.2.2.2 HN.2.2.1 HN.2.2.2.1 HN.2.2.2.2.1 N8.out (by rw[Jz.out,HX.out];rfl) (by have:=K5.out;omega) F6 HV.out HP.out Fp.out _ HW.out Ha Hf (GN.imp id λe=>by rw[World.size_alloc];exact e) Jj);have U7:=aA F6;have ZD:=aA Hf.size;clear Ha cf Hf GN Lw F6)
     |(refine step_append_lies _ (by rfl) _ _ _ (by rfl) w.heap.size 51 i0 (.agg zeroSt) 7 128 Tryz.underlying25 HI.1 HI.2.1 HI.2.2.1 HI.2.2.2 rfl (by decide) (.slice pA m vc) m cs (by rfl) S5.out ⟨w2.heap.size,0,none⟩ 1 1 zeroSt.toList (by rfl) (by rfl) Kl.out (by simp[zeroSt,Value.oneCell']) (by omega) (by unfold maxLen;omega) (by omega) (by omega) w7.heap.size rfl ?_
       intro gg cap w9 Ha Hf GN Hk;have Wj:=Ha.lt gg rfl;obtain⟨c0,c1,c2,c3,c4,c5,c6,cf⟩:=zgF Ha JB.out;have xU:=cf (m*7);have xV:=cf (m*7+1);have xW:=cf (m*7+2);have xX:=cf (m*7+3);have xY:=cf (m*7+4);have Dh:=cf (m*7+5);have Di:=cf (m*7+6);have Lw:=S5.lt;have R0:=(Hf.cell_far ⟨lb,0,none⟩ (by show lb < _;omega) (λe=>by have:=(Lw lb e.symm).1;omega)).trans (T1.cell 0);have NC:=(Hf.frozen_far ⟨lb,0,none⟩ (by show lb < _;omega) (λe=>by have:=(Lw lb e.symm).1;omega)).trans (T1.frozen 0);simp only[List.getElem?_toArray,List.getElem?_cons_zero]at R0;have Pw:¬lb=gg:=by omega
       have FG:¬gg=lb:=by omega
       have F6:=zcy (zbL n) n NA.out HX.out;have HE:=aA (λw10 Jj=>BlkX.stepN (w10:=w10) (f:=f) MO.out HL.out HN.2.2.2.2.2 HN.2.2.1 HN.2.2.2.1 HN.2.2.2.2.1 N8.out (by rw[Jz.out,HX.out];rfl) (by have:=K5.out;omega) F6 HV.out HP.out Fp.out _ HW.out Ha Hf GN Jj);have U7:=aA F6;have ZD:=aA Hf.size;clear Ha cf Hf GN Lw F6))
   all_goals
    clear c0 c1 c2 c3 c4 c5 c6 xU xV xW xX xY Dh Di;go_wp2_with fail;go_roundw;case rel=>
     first
      |exact⟨_,_,_,_,aA (HE _ (.inl (by with_reducible rfl)))⟩
      |exact⟨_,_,_,_,aA (HE _ (.inr (by with_reducible rfl)))⟩
    case measure=>
     first
      |exact zig (HE _ (.inl (by with_reducible rfl))) hx.out U7.out
      |exact zig (HE _ (.inr (by with_reducible rfl))) hx.out U7.out
