/- big: deeds that store and read: the closures. -/
import Derived.Test.YtfomomaomggpbaaGreatDoorJgBgPut
set_option linter.all false
set_option maxHeartbeats 3200000
set_option maxRecDepth 100000
namespace Go.Proofs.YtfomomaomggpbaaGreatDoor
open Go.RowKit Go.Shelf
def PtS (x b:Nat)(A:Option Addr)(n c:Nat)(v0 v1:Value)(W:World):Prop:=W.cell? ⟨x,0,none⟩=some (.slice A n c)/\W.cell? ⟨b,0,none⟩=some v0/\W.cell? ⟨b,1,none⟩=some v1
def zcW (C:BgC)(p q:Nat)(nm:ByteArray)(at_:Int)(vs:Value)(W:World):Prop:=W.cell? ⟨p,0,none⟩=some (.pointer (some ⟨C.P,0,none⟩))/\W.cell? ⟨C.P,1,none⟩=some (.map (some C.MA))/\W.cell? ⟨q,1,none⟩=some (.string nm)/\W.cell? ⟨q,6,none⟩=some (.int .i64 at_)/\(Instr.lookup 70 (.map (some C.MA)) (.string nm) false).run Tryz.prog W= .ok vs W
def InS (C:BgC)(p q nb:Nat)(nm:ByteArray)(a:Value)(b o n c:Nat)(x:Int)(W:World):Prop:=W.cell? ⟨p,0,none⟩=some (.pointer (some ⟨C.P,0,none⟩))/\W.cell? ⟨C.P,0,none⟩=some (.pointer (some ⟨C.R,0,none⟩))/\W.cell? ⟨q,1,none⟩=some (.string nm)/\(Instr.lookup 75 (.map (some nb)) (.string nm) false).run Tryz.prog W= .ok a W/\W.cell? ⟨C.R,0,none⟩=some (.slice (some ⟨b,o,none⟩) n c)/\W.cell? ⟨b,o,none⟩=some (.int .i64 x)
def stoO (n:Bn)(nm:ByteArray)(at_:Int)(X0 X1:Bs->Ho ⊕ Int)(s:Bs):Option Ho×Bs:=
 match s.left with
 |0=>(some ⟨2,0,at_⟩,s)
 |m+1=>match X0 {s with left:=m}with
  | .inl h=>(some h,{s with left:=m})
  | .inr a=>match X1 {s with left:=m}with
   | .inl h=>(some h,{s with left:=m})
   | .inr b=>if 0<=a/\a < (s.ls.getD (arrI n nm) []).length then(none,{s with left:=m,ls:=s.ls.set (arrI n nm) ((s.ls.getD (arrI n nm) []).set a.toNat b)})else(some ⟨5,5,at_⟩,{s with left:=m})
def inpO (n:Bn)(ps:List (List UInt8))(nm:ByteArray)(at_:Int)(s:Bs):Option Ho×Bs:=
 match s.left with
 |0=>(some ⟨2,0,at_⟩,s)
 |m+1=>match s.script with
  | []=>(some ⟨3,0,at_⟩,{s with left:=m})
  |x::q=>(none,setB n ps {s with left:=m,script:=q} nm x)
theorem zha (n:Bn)(ps:List (List UInt8))(s:Bs)(nm:ByteArray)(x:Int)(q:List Int):setB n ps {s with script:=q} nm x={setB n ps s nm x with script:=q}/\(setB n ps s nm x).script =s.script:=by
 unfold setB;cases posI ps nm.data.toList<;>exact⟨rfl,rfl⟩
section
variable {C:BgC} {ps:List (List UInt8)} {w:World} {lo hi q:Nat} {k:Int} {nm:ByteArray} {at_:Int} {A2 A3 A4 A5:Option Addr} {l2 c2 l3 c3 l4 c4 l5 c5:Nat}
theorem put_3 {p x i:Nat}{A:Option Addr}{c:Nat}{v0 v1:Value}{X0 X1:Bs->Ho ⊕ Int}(ho:C.Ok)(hT:C.T<=lo)(Gy:PgAt C w)(hp:Bx lo hi w p 69 #[.pointer (some ⟨C.P,0,none⟩)])(hq:Bx lo hi w q 51 (bgStC 3 nm A2 A3 A4 A5 l2 c2 l3 c3 l4 c4 l5 c5 at_))
  (hx:Bx lo hi w x 276 #[.slice A 2 c]) (Hz:RowF lo hi w A c [v0,v1]) (hs:nm.size<=9223372036854775807) (Ma:posI C.n.arrs nm.data.toList=some i) (VY:ValP C ps v0 X0 lo hi w) (FN:ValP C ps v1 X1 lo hi w):
  DoP C ps (.func (.func 176) #[] #[.pointer (some ⟨p,0,none⟩),.pointer (some ⟨q,0,none⟩),.pointer (some ⟨x,0,none⟩)]) (λs h t=>(h,t)=stoO C.n nm at_ X0 X1 s) lo hi w:=by
 obtain⟨g1,ye,rfl,F8,Hk⟩:=VY;obtain⟨g2,yg,rfl,KZ,Hq⟩:=FN;refine⟨_,_,rfl,enters_of Tryz.func176 (by kernel_rfl) rfl,λW oc nb s h t MT hD=>?_⟩;have hW:=MT.fr0 ho (Fr.refl NoT W).drew;obtain⟨b,rfl,Gw,GP,_⟩:=Hz.2.2 (by simp);have HS:=hdq (λW' t (h':RunAt C lo hi w W' ps oc nb t)=>h'.cts ho hT Gy hp hq (i:=6) rfl);have HC:=hdq (λW' t (h':RunAt C lo hi w W' ps oc nb t)=>zbO h'.st ho at_);have FW:=hdq (λW' t (h':RunAt C lo hi w W' ps oc nb t)=>Hk W' oc nb t h');have Lk:=hdq (λW' t (h':RunAt C lo hi w W' ps oc nb t)=>Hq W' oc nb t h');have HK:=hdq (λW' t (h':RunAt C lo hi w W' ps oc nb t)=>(h'.bx ho hT hq).cell 0);have qz:=hdq (λW' t (h':RunAt C lo hi w W' ps oc nb t)=>zfB (Gy.run ho h') hs Ma h'.st);have HP:=hdq (λW' t (h':RunAt C lo hi w W' ps oc nb t)=>(show PtS x b (some ⟨b,0,none⟩) 2 c (.func (.func g1) #[] ye) (.func (.func g2) #[] yg) W' from by
  obtain⟨b',e,_,_,hc⟩:=(Hz.run ho hT h').2.2 (by simp);obtain rfl:b=b':=by simpa using e
  exact⟨(h'.bx ho hT hx).cell 0,hc 0 _ rfl,hc 1 _ rfl⟩))
 have HT:=hdq (λW' t a (h':RunAt C lo hi w W' ps oc nb t) (hl:(Instr.lookup 70 (.map (some C.MA)) (.string nm) false).run Tryz.prog W'= .ok a W')=>(show zcW C p q nm at_ a W' from⟨(h'.bx ho hT hp).cell 0,(Gy.run ho h').p.cell 1,(h'.bx ho hT hq).cell 1,(h'.bx ho hT hq).cell 6,hl⟩));have KN:=hdq (λW' W2 t (h':RunAt C lo hi w W' ps oc nb t) (hf:Fr NoT W' W2)=>h'.fr0 ho hf);have Uj:2<=c:=Hz.1;have HO:=hdq ho;have UL:=hdq (show arrI C.n nm=i by unfold arrI;rw[Ma];rfl);have HW:=hdq hW;unfold Enters at F8 KZ;show Calls Tryz.prog 176 #[.map (some nb),.pointer (some ⟨p,0,none⟩),.pointer (some ⟨q,0,none⟩),.pointer (some ⟨x,0,none⟩)] W (DoQ C oc h t W)
 have HD:=hdq hD;obtain⟨R,hR⟩:=nmq C.R;rw[<-hR]at HC;clear Hk Hq hq hp hx Hz hT hs Ma hW MT Gy hD ho Gw GP;go_enter Tryz.func176,Tryz.ntmps176;go_wp2_with fail;refine zad (CtS C p q 6 at_) (λ_=>true) (by kernel_rfl) (HS _ _ HW.out) (λhHeld=>?_);refine zaa 4 ?_;simp only[putsL];refine zac 0 (v:=?_) rfl (by kernel_rfl) (λ_ _ _ h=>h) hHeld (by rfl) ?_ ?_;rotate_left
 ·intro wz Hn;(try dsimp only[CtS,InS,PtS,zcW]at Hn);go_simp;try with_reducible rfl
 try simp only[putsL]
 refine zac 5 (v:=?_) rfl (by kernel_rfl) (λ_ _ _ h=>h) hHeld (by rfl) ?_ ?_;rotate_left
 ·intro wz Hn;(try dsimp only[CtS,InS,PtS,zcW]at Hn);go_simp;try with_reducible rfl
 try simp only[putsL]
 refine zaa 1 ?_;simp only[putsL];refine zaa 2 ?_;simp only[putsL];refine zac 3 (v:=?_) rfl (by kernel_rfl) (λ_ _ _ h=>h) hHeld (by rfl) ?_ ?_;rotate_left
 ·intro wz Hn;(try dsimp only[CtS,InS,PtS,zcW]at Hn);go_simp;try with_reducible rfl
 try simp only[putsL]
 refine zab 6 rfl (by kernel_rfl) (λKK hK=>?_);go_simp;go_at_call 110;rw[<-hR];refine(HC _ _ HW.out).mono ?_;rintro e w1 (⟨h0,rfl,rfl⟩|⟨m,hm,rfl,Fc,Hg⟩)
 ·have Fj:=HD.out;unfold stoO at Fj;simp only[h0]at Fj;obtain⟨rfl,rfl⟩:=Prod.mk.inj Fj;exact⟨rfl,rfl,HW.st,(Fr.refl _ _).drew⟩
 have F5:RunAt C lo hi w w1 ps oc nb {s with left:=m}:=HW.next Hg.toO Fc (by show m<=s.left;omega);have hd:=HD.out;unfold stoO at hd;simp only[hm]at hd;have H1:=hdq F5;have Hs:=hdq (show Fr (C.MutO oc) W w1 from((Fr.refl _ _).drew.trans Hg).toO);have Ld:=hdq hd;have c3:=HK _ _ F5;clear Fc Hg F5 hm HC hR hHeld HD hd;try dsimp only
 refine hK _ _ (λ_ _=>HS _ _ H1.out) ?_;clear hK KK;try simp only[putsL]
 refine zaf (by kernel_rfl) ?_;go_wp2_with fail;have Nx:=KN _ _ _ H1.out (Fr.refl NoT w1).drew;refine zad (PtS x b (some ⟨b,0,none⟩) 2 c (.func (.func g1) #[] ye) (.func (.func g2) #[] yg)) (λ_=>true) (by kernel_rfl) (HP _ _ Nx) (λhHeld=>?_);have TP:=hdq Nx;clear Nx c3;refine zaa 3 ?_;simp only[putsL];refine zaa 8 ?_;simp only[putsL];refine zac 0 (v:=?_) rfl (by kernel_rfl) (λ_ _ _ h=>h) hHeld (by rfl) ?_ ?_;rotate_left
 ·intro wz Hn;(try dsimp only[CtS,InS,PtS,zcW]at Hn);go_simp;try with_reducible rfl
 try simp only[putsL]
 refine zac 5 (v:=?_) rfl (by kernel_rfl) (λ_ _ _ h=>h) hHeld (by rfl) ?_ ?_;rotate_left
 ·intro wz Hn;(try dsimp only[CtS,InS,PtS,zcW]at Hn);go_simp;try with_reducible rfl
 try simp only[putsL]
 refine zaa 1 ?_;simp only[putsL];refine zaa 6 ?_;simp only[putsL];refine zac 2 (v:=?_) rfl (by kernel_rfl) (λ_ _ _ h=>h) hHeld (by rfl) ?_ ?_;rotate_left
 ·intro wz Hn;(try dsimp only[CtS,InS,PtS,zcW]at Hn);go_simp;try with_reducible rfl
 try simp only[putsL]
 refine zac 7 (v:=?_) rfl (by kernel_rfl) (λ_ _ _ h=>h) hHeld (by rfl) ?_ ?_;rotate_left
 ·intro wz Hn;(try dsimp only[CtS,InS,PtS,zcW]at Hn);go_simp;try with_reducible rfl
 try simp only[putsL]
 refine zab 4 rfl (by kernel_rfl) (λKK hK=>?_);go_simp;refine(FW _ _ TP.out).mono ?_;rintro e w2 ⟨he,He⟩;rcases JD:X0 {s with left:=m}with V1|a
 ·rw[JD]at he;obtain rfl:=he;have JY:=Ld.out;simp only[JD]at JY;obtain⟨rfl,rfl⟩:=Prod.mk.inj JY;exact⟨rfl,rfl,(KN _ _ _ TP.out He).st,Hs.trans ((Fr.refl NoT w1).drew.trans He).any⟩
 rw[JD]at he;obtain⟨rfl,ha⟩:=he;have H2:=hdq (KN _ _ _ TP.out He);have Hv:=hdq (show Fr (C.MutO oc) W w2 from Hs.trans ((Fr.refl NoT w1).drew.trans He).any);have V6:=hdq JD;clear He ha JD FW;try dsimp only
 refine hK _ _ (λ_ _=>HP _ _ H2.out) ?_;clear hK KK;try simp only[putsL]
 refine zab 9 rfl (by kernel_rfl) (λKK hK=>?_);go_simp;refine(Lk _ _ H2.out).mono ?_;rintro e w3 ⟨he,Ga⟩;rcases G2:X1 {s with left:=m}with Y7|d
 ·rw[G2]at he;obtain rfl:=he;have JY:=Ld.out;simp only[V6.out,G2]at JY;obtain⟨rfl,rfl⟩:=Prod.mk.inj JY;exact⟨rfl,rfl,(KN _ _ _ H2.out Ga).st,Hv.trans Ga.any⟩
 rw[G2]at he;obtain⟨rfl,We⟩:=he;have H3:=hdq (KN _ _ _ H2.out Ga);have Xo:=hdq (KN _ _ _ H3.out (Fr.refl NoT w3).drew);have Ge:=hdq (show Fr (C.MutO oc) W w3.drew from Hv.trans (Ga.drew).any);have Le:=Ld.out;simp only[V6.out,G2]at Le;have Sx:=hdq Le;have Sr:=hdq We;clear Ga We G2 Ld V6 Le;try dsimp only
 refine hK _ _ (λ_ _=>HP _ _ H3.out) ?_;clear hK KK;try simp only[putsL]
 refine zaa 10 ?_;simp only[putsL];refine zaa 11 ?_;simp only[putsL];refine zaf (by kernel_rfl) ?_;go_wp2_with fail;obtain⟨gb,l,M3,hl,KL,Fo,Gm,KB,JK⟩:=qz _ _ Xo.out;have HE:=hdq (λW'=>zen gb l.length a at_ Fo W');obtain⟨z,hz⟩:=nmq l.length;rw[<-hz]at HE JK;refine zad (zcW C p q nm at_ (.slice (some ⟨gb,0,none⟩) z z)) (λi=>decide (i < 13)) (by kernel_rfl) (HT _ _ _ Xo.out JK) (λhHeld=>?_);have gN:=hdq M3;have qA:=hdq hl;have UM:=hdq KL;have J2:=hdq Gm;have HZ:=hdq hz;have HH:=hdq hHeld;clear M3 hl KL Gm hz JK KB Fo;refine zaa 4 ?_;simp only[putsL];refine zaa 7 ?_;simp only[putsL];refine zaa 8 ?_;simp only[putsL];refine zaa 11 ?_;simp only[putsL];refine zac 0 (v:=?_) rfl (by kernel_rfl) (λ_ _ _ h=>h) hHeld (by rfl) ?_ ?_;rotate_left
 ·intro wz Hn;(try dsimp only[CtS,InS,PtS,zcW]at Hn);go_simp;try with_reducible rfl
 try simp only[putsL]
 refine zac 5 (v:=?_) rfl (by kernel_rfl) (λ_ _ _ h=>h) hHeld (by rfl) ?_ ?_;rotate_left
 ·intro wz Hn;(try dsimp only[CtS,InS,PtS,zcW]at Hn);go_simp;try with_reducible rfl
 try simp only[putsL]
 refine zac 9 (v:=?_) rfl (by kernel_rfl) (λ_ _ _ h=>h) hHeld (by rfl) ?_ ?_;rotate_left
 ·intro wz Hn;(try dsimp only[CtS,InS,PtS,zcW]at Hn);go_simp;try with_reducible rfl
 try simp only[putsL]
 refine zaa 1 ?_;simp only[putsL];refine zaa 2 ?_;simp only[putsL];refine zac 3 (v:=?_) rfl (by kernel_rfl) (λ_ _ _ h=>h) hHeld (by rfl) ?_ ?_;rotate_left
 ·intro wz Hn;(try dsimp only[CtS,InS,PtS,zcW]at Hn);go_simp;try with_reducible rfl
 try simp only[putsL]
 refine zac 6 (v:=?_) rfl (by kernel_rfl) (λ_ _ _ h=>h) hHeld (by rfl) ?_ ?_;rotate_left
 ·intro wz Hn;(try dsimp only[CtS,InS,PtS,zcW]at Hn);go_simp;try with_reducible rfl
 try simp only[putsL]
 refine zab 10 rfl (by kernel_rfl) (λKK hK=>?_);go_simp;go_at_call 177;refine(HE _).mono ?_;rintro e w4 ⟨rfl,J9⟩;have Py:=Sx.out;rw[show s.ls.getD (arrI C.n nm) []=l from UM.out]at Py;rw[<-HZ.out]at Py;rcases J9 with⟨h0,h1,rfl⟩|⟨h0,rfl⟩;case inr=>
  rw[if_neg h0]at Py;obtain⟨rfl,rfl⟩:=Prod.mk.inj Py;exact⟨rfl,rfl,Xo.st,Ge.out⟩
 rw[if_pos ⟨h0,h1⟩,UL.out]at Py;obtain⟨rfl,rfl⟩:=Prod.mk.inj Py;have F6:=Xo.st.setA HO.out gN.out qA.out a.toNat Sr.out;have z1:=J2.frozen a.toNat;have z2:=J2.lt;obtain⟨y0,z0⟩:∃y,w3.drew.cell? ⟨gb,a.toNat,none⟩=some y:=by
  have TK:a.toNat < l.length:=by rw[<-HZ.out];omega
  have:=J2.cell a.toNat;rw[this];exact⟨_,by simp[intL,List.getElem?_eq_getElem TK];rfl⟩
 have hq:DoQ C oc none _ W (.returned (.tuple #[])) (w3.drew.setCell ⟨gb,a.toNat,none⟩ (.int .i64 d)):=⟨rfl,F6,Ge.setCell (p:=⟨gb,a.toNat,none⟩) (.inl (.inl (.inr (.inr (.inl (List.mem_of_getElem? gN.out)))))) _⟩;have HQ:=hdq hq;clear F6 Py h0 h1 hq;try dsimp only
 refine hK _ _ (λ_ _=>HH.out) ?_;clear hK KK;try simp only[putsL]
 refine zaa 12 ?_;simp only[putsL];refine zab 13 rfl (by kernel_rfl) (λKK hK=>?_);go_simp;refine hK _ _ (λh=>absurd h (by decide)) ?_;clear hK KK;try simp only[putsL]
 refine zaf (by kernel_rfl) ?_;go_wp2_with fail;go_end0;exact HQ.out
end
section
variable {C:BgC} {ps:List (List UInt8)} {w:World} {lo hi q:Nat} {k:Int} {nm:ByteArray} {at_:Int} {A2 A3 A4 A5:Option Addr} {l2 c2 l3 c3 l4 c4 l5 c5:Nat}
theorem put_4 {p x:Nat}{xs:Array Value}(ho:C.Ok)(hT:C.T<=lo)(Gy:PgAt C w)(hp:Bx lo hi w p 69 #[.pointer (some ⟨C.P,0,none⟩)])(hq:Bx lo hi w q 51 (bgStC 4 nm A2 A3 A4 A5 l2 c2 l3 c3 l4 c4 l5 c5 at_))
  (hs:nm.size<=9223372036854775807) (Mq:InSc C.n ps nm):
  DoP C ps (.func (.func 176) #[] #[.pointer (some ⟨p,0,none⟩),.pointer (some ⟨q,0,none⟩),.pointer (some ⟨x,0,none⟩)]) (λs h t=>(h,t)=inpO C.n ps nm at_ s) lo hi w:=by
 refine⟨_,_,rfl,enters_of Tryz.func176 (by kernel_rfl) rfl,λW oc nb s h t MT hD=>?_⟩;have hW:=MT.fr0 ho (Fr.refl NoT W).drew;have HS:=hdq (λW' t (h':RunAt C lo hi w W' ps oc nb t)=>h'.cts ho hT Gy hp hq (i:=6) rfl);have HC:=hdq (λW' t (h':RunAt C lo hi w W' ps oc nb t)=>zbO h'.st ho at_);have HK:=hdq (λW' t (h':RunAt C lo hi w W' ps oc nb t)=>(h'.bx ho hT hq).cell 0);have Qq:=hdq (λW' t (h':RunAt C lo hi w W' ps oc nb t)=>zeo h' hs Mq);have HP:=hdq (λW' t a b o n c x (h':RunAt C lo hi w W' ps oc nb t) (hl:(Instr.lookup 75 (.map (some nb)) (.string nm) false).run Tryz.prog W'= .ok a W') (h1:W'.cell? ⟨C.R,0,none⟩=some (.slice (some ⟨b,o,none⟩) n c)) (h2:W'.cell? ⟨b,o,none⟩=some (.int .i64 x))=>(show InS C p q nb nm a b o n c x W' from⟨(h'.bx ho hT hp).cell 0,(Gy.run ho h').p.cell 0,(h'.bx ho hT hq).cell 1,hl,h1,h2⟩));have KN:=hdq (λW' W2 t (h':RunAt C lo hi w W' ps oc nb t) (hf:Fr NoT W' W2)=>h'.fr0 ho hf);have HO:=hdq ho;have HW:=hdq hW;show Calls Tryz.prog 176 #[.map (some nb),.pointer (some ⟨p,0,none⟩),.pointer (some ⟨q,0,none⟩),.pointer (some ⟨x,0,none⟩)] W (DoQ C oc h t W)
 have HD:=hdq hD;obtain⟨R,hR⟩:=nmq C.R;rw[<-hR]at HC;clear hq hp hT hs Mq hW MT Gy hD ho;go_enter Tryz.func176,Tryz.ntmps176;go_wp2_with fail;refine zad (CtS C p q 6 at_) (λ_=>true) (by kernel_rfl) (HS _ _ HW.out) (λhHeld=>?_);refine zaa 4 ?_;simp only[putsL];refine zac 0 (v:=?_) rfl (by kernel_rfl) (λ_ _ _ h=>h) hHeld (by rfl) ?_ ?_;rotate_left
 ·intro wz Hn;(try dsimp only[CtS,InS]at Hn);go_simp;try with_reducible rfl
 try simp only[putsL]
 refine zac 5 (v:=?_) rfl (by kernel_rfl) (λ_ _ _ h=>h) hHeld (by rfl) ?_ ?_;rotate_left
 ·intro wz Hn;(try dsimp only[CtS,InS]at Hn);go_simp;try with_reducible rfl
 try simp only[putsL]
 refine zaa 1 ?_;simp only[putsL];refine zaa 2 ?_;simp only[putsL];refine zac 3 (v:=?_) rfl (by kernel_rfl) (λ_ _ _ h=>h) hHeld (by rfl) ?_ ?_;rotate_left
 ·intro wz Hn;(try dsimp only[CtS,InS]at Hn);go_simp;try with_reducible rfl
 try simp only[putsL]
 refine zab 6 rfl (by kernel_rfl) (λKK hK=>?_);go_simp;go_at_call 110;rw[<-hR];refine(HC _ _ HW.out).mono ?_;rintro e w1 (⟨h0,rfl,rfl⟩|⟨m,hm,rfl,Fc,Hg⟩)
 ·have Fj:=HD.out;unfold inpO at Fj;simp only[h0]at Fj;obtain⟨rfl,rfl⟩:=Prod.mk.inj Fj;exact⟨rfl,rfl,HW.st,(Fr.refl _ _).drew⟩
 have F5:RunAt C lo hi w w1 ps oc nb {s with left:=m}:=HW.next Hg.toO Fc (by show m<=s.left;omega);have hd:=HD.out;unfold inpO at hd;simp only[hm]at hd;have H1:=hdq F5;have Hs:=hdq (show Fr (C.MutO oc) W w1 from((Fr.refl _ _).drew.trans Hg).toO);have Ld:=hdq hd;have c3:=HK _ _ F5;obtain⟨d0,d1,d2⟩:=HS _ _ F5;obtain⟨As,cs,Fu,Gm⟩:=Fc.run;have d3:=Gm.cell 0;simp only[runV,List.getElem?_toArray,List.getElem?_cons_zero]at d3;have SO:=hdq Fu;have J2:=hdq Gm;clear Fc Hg F5 hm HC hHeld HD hd Fu Gm;try dsimp only
 refine hK _ _ (λ_ _=>HS _ _ H1.out) ?_;clear hK KK;try simp only[putsL]
 refine zaf (by kernel_rfl) ?_;have Jk:s.script= []\/∃x0 r,s.script=x0::r:=by
  cases s.script with
  |nil=>exact .inl rfl
  |cons x r=>exact .inr ⟨x,r,rfl⟩
 rcases Jk with Kx|⟨x0,r,Kx⟩
 ·have Le:=Ld.out;simp only[Kx]at Le;obtain⟨rfl,rfl⟩:=Prod.mk.inj Le;rw[Kx]at d3;have Gu:BgSt C oc {s with left:=m,script:= []} w1:=by
   have h9:=H1.st;rw[show({s with left:=m}:Bs)={s with left:=m,script:= []} by rw[<-Kx]]at h9;exact h9
  have HQ:=hdq (show DoQ C oc (some ⟨3,0,at_⟩) {s with left:=m,script:= []} W (endE ⟨3,0,at_⟩) w1 from⟨rfl,Gu,Hs.out⟩);clear Le Ld SO J2 Kx hR Gu;go_wp2_with fail;exact⟨rfl,HQ.out⟩
 ·have Le:=Ld.out;simp only[Kx]at Le;obtain⟨rfl,rfl⟩:=Prod.mk.inj Le;rw[Kx]at d3;have Fu:=SO.out;rw[show({s with left:=m}:Bs).script =x0::r from Kx]at Fu;obtain⟨Fo,Fp,Jx⟩:=Fu;obtain⟨b,o,rfl,Hh⟩:=Jx (by simp);have JD:=(Hh.2 0 x0 rfl).1;rw[Nat.add_zero]at JD;have Zh:is64 x0:=by have:=(Hh.2 0 x0 rfl).2;unfold in64 at this;unfold is64;omega
  obtain⟨n,hn⟩:=nmq ((x0::r).length );rw[<-hn]at d3 Fo;have Lm:0 < n:=by rw[hn];simp
  have J3:1<=n:=Lm;have e0:((n:Int)==0)=false:=by simp;omega
  have e1n:(1:Int)<=(n:Int):=by omega
  obtain⟨yt,Zi⟩:∃A:Option Addr,A=if cs=1 then some ⟨b,o,none⟩else some ⟨b,o+1,none⟩:=⟨_,rfl⟩
  have LX:IsSl w1 C.B r yt (cs - 1):=by
   have FO:r.length+1=n:=by rw[hn];simp
   refine⟨by omega,by omega,λhp=>⟨b,o+1,by rw[Zi,if_neg (by omega)],Hh.1,λi y hi=>?_⟩⟩;have:=Hh.2 (i+1) y (by simpa using hi);rw[show o+1+i=o+(i+1)from by omega];exact this
  have Nx:=KN _ _ _ H1.out (Fr.refl NoT w1).drew;obtain⟨b2,o2,JK,Kr,F6,KF⟩:=Qq _ _ Nx;have Gc:=KF.2 HO.out;have LW:=F6 _ _ x0 HO.out Nx.st Zh;have Pj:Bk (w1.drew.setCell ⟨b2,o2,none⟩ (.int .i64 x0)) C.R 68 (runV C (some ⟨b,o,none⟩) cs {s with left:=m}):=(J2.fr0 (Fr.refl NoT w1).drew).far (p:=⟨b2,o2,none⟩) (Ne.symm Gc) _;have FL:=zha C.n ps {s with left:=m} nm x0 r;have Jl:(setB C.n ps {s with left:=m} nm x0).vs.length =s.vs.length/\(setB C.n ps {s with left:=m} nm x0).ls =s.ls:=by
   unfold setB;cases posI ps nm.data.toList<;>simp
  have gO:runV C (some ⟨b,o,none⟩) cs {s with left:=m}=runV C (some ⟨b,o,none⟩) cs (setB C.n ps {s with left:=m} nm x0):=by
   unfold runV;rw[FL.2,Jl.1,Jl.2,zd5]
  rw[gO]at Pj;have Fa:C.B<=w1.heap.size:=H1.st.size HO.out;have TS:¬b2 < C.B:=λHl=>by
   have hh:=(HO.out).br;rcases KF.1 with(e|e|e|e)|e
   ·omega
   ·have:=H1.st.sto.vl;have:=(HO.out).bl;omega
   ·obtain⟨i,hi⟩:=List.mem_iff_getElem?.1 e;have M0:i < ({s with left:=m}:Bs).ls.length :=by rw[<-H1.st.sto.len];exact(List.getElem?_eq_some_iff.1 hi).1
    have:=(H1.st.sto.each i b2 _ hi (List.getElem?_eq_getElem M0)).1;have:=(HO.out).bl;omega
   ·have:=(HO.out).bm;omega
   ·have:=H1.st.top b2 e;have:=(HO.out).rT;omega
  have QE:IsSl (w1.drew.setCell ⟨b2,o2,none⟩ (.int .i64 x0)) C.B r yt (cs - 1):=LX.keep λpp UP=>by
   have hf:Fr (λy=>y=b2) w1 (w1.drew.setCell ⟨b2,o2,none⟩ (.int .i64 x0)):=Fr.own ((Fr.refl _ _).drew) _ _;exact hf.cell (ltq UP Fa) λe=>TS (by have e:pp.block=b2:=e;rw[<-e];exact UP)
  have Q6:=LW.read HO.out (q:=r) Pj QE;rw[<-FL.1]at Q6;have gP:r.length=n - 1:=by rw[hn];simp
  rw[gP]at Q6;obtain⟨z0,_,z1,z2⟩:=Kr _ _ Nx.st;have y0:=Pj.cell 0;have y1:=Pj.frozen 0;have y2:=Pj.lt;simp only[runV,List.getElem?_toArray,List.getElem?_cons_zero]at y0;have K4:Fr (C.MutO oc) W ((w1.drew.setCell ⟨b2,o2,none⟩ (.int .i64 x0)).setCell ⟨C.R,0,none⟩ (.slice yt (n - 1) (cs - 1))):=
   ((Hs.trans ((Fr.refl NoT w1).drew).any).setCell (p:=⟨b2,o2,none⟩) (.inl KF.1) _).setCell (p:=⟨C.R,0,none⟩) (.inl (.inl (.inl rfl))) _
  have HQ:=hdq (show DoQ C oc none _ W (.returned (.tuple #[])) _ from⟨rfl,Q6,K4⟩);have qB:=hdq (HP _ _ _ b o n cs x0 Nx (JK _ (Fr.refl _ _)) d3 JD);have He:Fr (C.MutO oc) w1.drew (w1.drew.setCell ⟨b2,o2,none⟩ (.int .i64 x0)):=(Fr.refl _ _).setCell (p:=⟨b2,o2,none⟩) (.inl KF.1) _;have gQ:(w1.drew.setCell ⟨b2,o2,none⟩ (.int .i64 x0)).cell? ⟨b,o,none⟩=some (.int .i64 x0):=by
   have hf:Fr (λy=>y=b2) w1 (w1.drew.setCell ⟨b2,o2,none⟩ (.int .i64 x0)):=Fr.own ((Fr.refl _ _).drew) _ _;exact(hf.cell (p:=⟨b,o,none⟩) (ltq Hh.1 Fa) λe=>TS (by have e:b=b2:=e;rw[<-e];exact Hh.1)).trans JD
  have Zj:=hdq (HP _ _ _ b o n cs x0 (Nx.next He LW (by rw[zd5];exact lrq _)) (JK _ He) (by rw[y0,FL.2,hn];simp only[Kx]) gQ);have Wa:=Ne.symm Gc;have x1:=J2.frozen 0;have x2:=J2.lt;have qC:=hdq Zi;clear Q6 K4 LX QE Pj F6 LW Kr JK Nx KF Le Ld gO FL Jl Jx Hh hn Kx gP TS Zi He gQ;go_wp2_with fail;refine zad (InS C p q nb nm (.pointer (some ⟨b2,o2,none⟩)) b o n cs x0) (λi=>decide (i < 29)) (by kernel_rfl) qB.out (λhHeld=>?_);refine zaa 0 ?_;simp only[putsL];refine zaa 1 ?_;simp only[putsL];refine zax 2 (v:=?_) rfl (by kernel_rfl) (λ_ _ _ h=>h) hHeld (by rfl) ?_ ?_;rotate_left
  ·intro wz Hn;(try dsimp only[CtS,InS]at Hn);go_simp;try with_reducible rfl
  try simp only[putsL]
  refine zax 3 (v:=?_) rfl (by kernel_rfl) (λ_ _ _ h=>h) hHeld (by rfl) ?_ ?_;rotate_left
  ·intro wz Hn;(try dsimp only[CtS,InS]at Hn);go_simp;try with_reducible rfl
  try simp only[putsL]
  refine zax 4 (v:=?_) rfl (by kernel_rfl) (λ_ _ _ h=>h) hHeld (by rfl) ?_ ?_;rotate_left
  ·intro wz Hn;(try dsimp only[CtS,InS]at Hn);go_simp;try with_reducible rfl
  try simp only[putsL]
  refine zaa 5 ?_;simp only[putsL];refine zaa 6 ?_;simp only[putsL];refine zax 7 (v:=?_) rfl (by kernel_rfl) (λ_ _ _ h=>h) hHeld (by rfl) ?_ ?_;rotate_left
  ·intro wz Hn;(try dsimp only[CtS,InS]at Hn);go_simp;try with_reducible rfl
  try simp only[putsL]
  refine zax 8 (v:=?_) rfl (by kernel_rfl) (λ_ _ _ h=>h) hHeld (by rfl) ?_ ?_;rotate_left
  ·intro wz Hn;(try dsimp only[CtS,InS]at Hn);go_simp;try with_reducible rfl
  try simp only[putsL]
  refine zaa 9 ?_;simp only[putsL];refine zaa 10 ?_;simp only[putsL];refine zax 11 (v:=?_) rfl (by kernel_rfl) (λ_ _ _ h=>h) hHeld (by rfl) ?_ ?_;rotate_left
  ·intro wz Hn;(try dsimp only[CtS,InS]at Hn);go_simp;try with_reducible rfl
  try simp only[putsL]
  refine zaa 12 ?_;simp only[putsL];refine zaa 13 ?_;simp only[putsL];refine zax 14 (v:=?_) rfl (by kernel_rfl) (λ_ _ _ h=>h) hHeld (by rfl) ?_ ?_;rotate_left
  ·intro wz Hn;(try dsimp only[CtS,InS]at Hn);go_simp;try with_reducible rfl
  try simp only[putsL]
  refine zaa 15 ?_;simp only[putsL];refine zax 16 (v:=?_) rfl (by kernel_rfl) (λ_ _ _ h=>h) hHeld (by rfl) ?_ ?_;rotate_left
  ·intro wz Hn;(try dsimp only[CtS,InS]at Hn);go_simp;try with_reducible rfl
  try simp only[putsL]
  refine zax 17 (v:=?_) rfl (by kernel_rfl) (λ_ _ _ h=>h) hHeld (by rfl) ?_ ?_;rotate_left
  ·intro wz Hn;(try dsimp only[CtS,InS]at Hn);go_simp;try with_reducible rfl
  try simp only[putsL]
  refine zaa 18 ?_;simp only[putsL];refine zaa 19 ?_;simp only[putsL];refine zax 20 (v:=?_) rfl (by kernel_rfl) (λ_ _ _ h=>h) hHeld (by rfl) ?_ ?_;rotate_left
  ·intro wz Hn;(try dsimp only[CtS,InS]at Hn);go_simp;try with_reducible rfl
  try simp only[putsL]
  refine zaa 21 ?_;simp only[putsL];refine zaa 22 ?_;simp only[putsL];refine zax 23 (v:=?_) rfl (by kernel_rfl) (λ_ _ _ h=>h) hHeld (by rfl) ?_ ?_;rotate_left
  ·intro wz Hn;(try dsimp only[CtS,InS]at Hn);go_simp;try with_reducible rfl
  try simp only[putsL]
  refine zaa 24 ?_;simp only[putsL];rw[<-qC.out];refine zaa 25 ?_;simp only[putsL];refine zab 26 rfl (by kernel_rfl) (λKK hK=>?_);go_simp;refine hK _ _ (λ_ _=>Zj.out) ?_;clear hK KK;try simp only[putsL]
  refine zaa 27 ?_;simp only[putsL];refine zaa 28 ?_;simp only[putsL];refine zab 29 rfl (by kernel_rfl) (λKK hK=>?_);go_simp;refine hK _ _ (λh=>absurd h (by decide)) ?_;clear hK KK;try simp only[putsL]
  refine zaf (by kernel_rfl) ?_;go_wp2_with fail;go_end0;exact HQ.out
end
