/- big: deeds that set: the closures. -/
import Derived.Test.YtfomomaomggpbaaGreatDoorJgBgTru
set_option linter.all false
set_option maxHeartbeats 1600000
set_option maxRecDepth 100000
namespace Go.Proofs.YtfomomaomggpbaaGreatDoor
open Go.RowKit Go.Shelf
def RowF (lo hi:Nat)(w:World)(A:Option Addr)(c:Nat)(vs:List Value):Prop:=vs.length<=c/\c<=9223372036854775807/\(0 < vs.length->∃b,A=some ⟨b,0,none⟩/\lo<=b/\b < hi/\∀(i:Nat) v,vs[i]?=some v->w.cell? ⟨b,i,none⟩=some v)
section
variable {C:BgC} {ps:List (List UInt8)} {w:World} {lo hi q:Nat} {k:Int} {nm:ByteArray} {at_:Int} {A2 A3 A4 A5:Option Addr} {l2 c2 l3 c3 l4 c4 l5 c5:Nat}
theorem RowF.run {A:Option Addr}{c:Nat}{vs:List Value}(hr:RowF lo hi w A c vs)(ho:C.Ok)(hT:C.T<=lo){W:World}{oc:List Nat}{nb:Nat}{s:Bs}(h:RunAt C lo hi w W ps oc nb s):RowF lo hi W A c vs:=
 ⟨hr.1,hr.2.1,λhp=>by
  obtain⟨b,e,h1,h2,h3⟩:=hr.2.2 hp;exact⟨b,e,h1,h2,λi v hv=>(World.cell?_of_block (h.lat.block b (.inr ⟨h1,h2⟩) (zgw ho (leq9 hT h1)))).trans (h3 i v hv)⟩⟩
abbrev bgStC (k:Int)(nm:ByteArray)(A2 A3 A4 A5:Option Addr)(l2 c2 l3 c3 l4 c4 l5 c5:Nat)(at_:Int):Array Value:= #[.int .u8 k,.string nm,.slice A2 l2 c2,.slice A3 l3 c3,.slice A4 l4 c4,.slice A5 l5 c5,.int .i64 at_]
def PuS (q x b nb:Nat)(nm:ByteArray)(A:Option Addr)(n c:Nat)(v0 a:Value)(W:World):Prop:=W.cell? ⟨q,1,none⟩=some (.string nm)/\W.cell? ⟨x,0,none⟩=some (.slice A n c)/\W.cell? ⟨b,0,none⟩=some v0/\(Instr.lookup 75 (.map (some nb)) (.string nm) false).run Tryz.prog W= .ok a W
def bgSetO (n:Bn)(ps:List (List UInt8))(nm:ByteArray)(at_:Int)(X0:Bs->Ho ⊕ Int)(s:Bs):Option Ho×Bs:=
 match s.left with
 |0=>(some ⟨2,0,at_⟩,s)
 |m+1=>match X0 {s with left:=m}with
  | .inl h=>(some h,{s with left:=m})
  | .inr x=>(none,setB n ps {s with left:=m} nm x)
theorem put_2 {p x:Nat}{A:Option Addr}{c:Nat}{v0:Value}{X0:Bs->Ho ⊕ Int}(ho:C.Ok)(hT:C.T<=lo)(Gy:PgAt C w)(hp:Bx lo hi w p 69 #[.pointer (some ⟨C.P,0,none⟩)])(hq:Bx lo hi w q 51 (bgStC 2 nm A2 A3 A4 A5 l2 c2 l3 c3 l4 c4 l5 c5 at_))
  (hx:Bx lo hi w x 276 #[.slice A 1 c]) (Hz:RowF lo hi w A c [v0]) (hs:nm.size<=9223372036854775807) (Mq:InSc C.n ps nm) (VY:ValP C ps v0 X0 lo hi w):
  DoP C ps (.func (.func 176) #[] #[.pointer (some ⟨p,0,none⟩),.pointer (some ⟨q,0,none⟩),.pointer (some ⟨x,0,none⟩)]) (λs h t=>(h,t)=bgSetO C.n ps nm at_ X0 s) lo hi w:=by
 obtain⟨g1,ye,rfl,F8,Hk⟩:=VY;refine⟨_,_,rfl,enters_of Tryz.func176 (by kernel_rfl) rfl,λW oc nb s h t MT hD=>?_⟩;have hW:=MT.fr0 ho (Fr.refl NoT W).drew;obtain⟨b,rfl,Gw,GP,_⟩:=Hz.2.2 (by simp);have HS:=hdq (λW' t (h':RunAt C lo hi w W' ps oc nb t)=>h'.cts ho hT Gy hp hq (i:=6) rfl);have HC:=hdq (λW' t (h':RunAt C lo hi w W' ps oc nb t)=>zbO h'.st ho at_);have FW:=hdq (λW' t (h':RunAt C lo hi w W' ps oc nb t)=>Hk W' oc nb t h');have HK:=hdq (λW' t (h':RunAt C lo hi w W' ps oc nb t)=>(h'.bx ho hT hq).cell 0);have Qq:=hdq (λW' t (h':RunAt C lo hi w W' ps oc nb t)=>zeo h' hs Mq);have HP:=hdq (λW' t a (h':RunAt C lo hi w W' ps oc nb t) (hl:(Instr.lookup 75 (.map (some nb)) (.string nm) false).run Tryz.prog W'= .ok a W')=>(show PuS q x b nb nm (some ⟨b,0,none⟩) 1 c (.func (.func g1) #[] ye) a W' from⟨(h'.bx ho hT hq).cell 1,(h'.bx ho hT hx).cell 0,by
  obtain⟨b',e,_,_,hc⟩:=(Hz.run ho hT h').2.2 (by simp);obtain rfl:b=b':=by simpa using e
  exact hc 0 _ rfl,hl⟩))
 have KN:=hdq (λW' W2 t (h':RunAt C lo hi w W' ps oc nb t) (hf:Fr NoT W' W2)=>h'.fr0 ho hf);have Uj:1<=c:=Hz.1;have HO:=hdq ho;have HW:=hdq hW;unfold Enters at F8;show Calls Tryz.prog 176 #[.map (some nb),.pointer (some ⟨p,0,none⟩),.pointer (some ⟨q,0,none⟩),.pointer (some ⟨x,0,none⟩)] W (DoQ C oc h t W)
 have HD:=hdq hD;obtain⟨R,hR⟩:=nmq C.R;rw[<-hR]at HC;clear Hk hq hp hx Hz hT hs Mq hW MT Gy hD ho Gw GP;go_enter Tryz.func176,Tryz.ntmps176;go_wp2_with fail;refine zad (CtS C p q 6 at_) (λ_=>true) (by kernel_rfl) (HS _ _ HW.out) (λhHeld=>?_);refine zaa 4 ?_;simp only[putsL];refine zac 0 (v:=?_) rfl (by kernel_rfl) (λ_ _ _ h=>h) hHeld (by rfl) ?_ ?_;rotate_left
 ·intro wz Hn;(try dsimp only[CtS,PuS]at Hn);go_simp;try with_reducible rfl
 try simp only[putsL]
 refine zac 5 (v:=?_) rfl (by kernel_rfl) (λ_ _ _ h=>h) hHeld (by rfl) ?_ ?_;rotate_left
 ·intro wz Hn;(try dsimp only[CtS,PuS]at Hn);go_simp;try with_reducible rfl
 try simp only[putsL]
 refine zaa 1 ?_;simp only[putsL];refine zaa 2 ?_;simp only[putsL];refine zac 3 (v:=?_) rfl (by kernel_rfl) (λ_ _ _ h=>h) hHeld (by rfl) ?_ ?_;rotate_left
 ·intro wz Hn;(try dsimp only[CtS,PuS]at Hn);go_simp;try with_reducible rfl
 try simp only[putsL]
 refine zab 6 rfl (by kernel_rfl) (λKK hK=>?_);go_simp;go_at_call 110;rw[<-hR];refine(HC _ _ HW.out).mono ?_;rintro e w1 (⟨h0,rfl,rfl⟩|⟨m,hm,rfl,Fc,Hg⟩)
 ·have Fj:=HD.out;unfold bgSetO at Fj;simp only[h0]at Fj;obtain⟨rfl,rfl⟩:=Prod.mk.inj Fj;exact⟨rfl,rfl,HW.st,(Fr.refl _ _).drew⟩
 have F5:RunAt C lo hi w w1 ps oc nb {s with left:=m}:=HW.next Hg.toO Fc (by show m<=s.left;omega);have hd:=HD.out;unfold bgSetO at hd;simp only[hm]at hd;have H1:=hdq F5;have Hs:=hdq (show Fr (C.MutO oc) W w1 from((Fr.refl _ _).drew.trans Hg).toO);have Ld:=hdq hd;have c3:=HK _ _ F5;clear Fc Hg F5 hm HC hR hHeld HD hd;try dsimp only
 refine hK _ _ (λ_ _=>HS _ _ H1.out) ?_;clear hK KK;try simp only[putsL]
 refine zaf (by kernel_rfl) ?_;go_wp2_with fail;have Nx:=KN _ _ _ H1.out (Fr.refl NoT w1).drew;obtain⟨b2,o2,JK,Kr,F6,KF⟩:=Qq _ _ Nx;have HL:=hdq JK;have qt:=hdq Kr;have Pi:=hdq F6;have HM:=hdq KF.1;refine zad (PuS q x b nb nm (some ⟨b,0,none⟩) 1 c (.func (.func g1) #[] ye) (.pointer (some ⟨b2,o2,none⟩))) (λi=>decide (i < 9)) (by kernel_rfl) (HP _ _ _ Nx (JK _ (Fr.refl _ _))) (λhHeld=>?_);have TP:=hdq Nx;clear Nx JK Kr F6 KF c3;refine zaa 0 ?_;simp only[putsL];refine zaa 1 ?_;simp only[putsL];refine zaa 7 ?_;simp only[putsL];refine zac 2 (v:=?_) rfl (by kernel_rfl) (λ_ _ _ h=>h) hHeld (by rfl) ?_ ?_;rotate_left
 ·intro wz Hn;(try dsimp only[CtS,PuS]at Hn);go_simp;try with_reducible rfl
 try simp only[putsL]
 refine zac 4 (v:=?_) rfl (by kernel_rfl) (λ_ _ _ h=>h) hHeld (by rfl) ?_ ?_;rotate_left
 ·intro wz Hn;(try dsimp only[CtS,PuS]at Hn);go_simp;try with_reducible rfl
 try simp only[putsL]
 refine zac 3 (v:=?_) rfl (by kernel_rfl) (λ_ _ _ h=>h) hHeld (by rfl) ?_ ?_;rotate_left
 ·intro wz Hn;(try dsimp only[CtS,PuS]at Hn);go_simp;try with_reducible rfl
 try simp only[putsL]
 refine zaa 5 ?_;simp only[putsL];refine zac 6 (v:=?_) rfl (by kernel_rfl) (λ_ _ _ h=>h) hHeld (by rfl) ?_ ?_;rotate_left
 ·intro wz Hn;(try dsimp only[CtS,PuS]at Hn);go_simp;try with_reducible rfl
 try simp only[putsL]
 refine zab 8 rfl (by kernel_rfl) (λKK hK=>?_);go_simp;refine(FW _ _ TP.out).mono ?_;rintro e w2 ⟨he,He⟩;rcases JD:X0 {s with left:=m}with V1|a
 ·rw[JD]at he;obtain rfl:=he;have JY:=Ld.out;simp only[JD]at JY;obtain⟨rfl,rfl⟩:=Prod.mk.inj JY;exact⟨rfl,rfl,(KN _ _ _ TP.out He).st,Hs.trans ((Fr.refl NoT w1).drew.trans He).any⟩
 rw[JD]at he;obtain⟨rfl,ha⟩:=he;have h2:=KN _ _ _ TP.out He;obtain⟨z0,_,z1,z2⟩:=qt _ _ h2.st;have LW:=Pi _ _ a HO.out h2.st ha;have JY:=Ld.out;simp only[JD]at JY;obtain⟨rfl,rfl⟩:=Prod.mk.inj JY;have JR:Fr (C.MutO oc) W (w2.setCell ⟨b2,o2,none⟩ (.int .i64 a)):=(Hs.trans ((Fr.refl NoT w1).drew.trans He).any).setCell (p:=⟨b2,o2,none⟩) (.inl HM.out) _;have HQ:=hdq (show DoQ C oc none (setB C.n ps {s with left:=m} nm a) W (.returned (.tuple #[])) (w2.setCell ⟨b2,o2,none⟩ (.int .i64 a))from⟨rfl,LW,JR⟩);have M6:=hdq (HP _ _ _ h2 (HL _ He.any));clear JY LW JR h2 He ha Ld JD;try dsimp only
 refine hK _ _ (λ_ _=>M6.out) ?_;clear hK KK;try simp only[putsL]
 refine zaa 9 ?_;simp only[putsL];refine zab 10 rfl (by kernel_rfl) (λKK hK=>?_);go_simp;refine hK _ _ (λh=>absurd h (by decide)) ?_;clear hK KK;try simp only[putsL]
 refine zaf (by kernel_rfl) ?_;go_wp2_with fail;go_end0;exact HQ.out
end
abbrev RowP:=Nat->Value->Nat->Nat->World->Prop
def RwS (C:BgC)(P:RowP):Prop:=∀i v lo hi w w',Later C lo hi w w'->P i v lo hi w->P i v lo hi w'
structure MkL (C:BgC)(W0 w:World)(g:Nat)(ty e:TypeId)(v:Value)(vs:List Value)(P:RowP):Prop where
 fr:Fr NoT W0 w
 bk:Bk w g ty #[v]
 gl:W0.heap.size<=g
 row:w.ownsRow (g+1) e 1 v vs.length vs
 vals:∀(i:Nat) u,vs[i]?=some u->∃lo hi,P i u lo hi w/\W0.heap.size<=lo/\hi<=w.heap.size/\(g < lo\/hi<=g)/\∀b,v.ownBlock=some b->b < lo\/hi<=b
theorem zg9 {w w':World}{B n size:Nat}{t:TypeId}{v:Value}{cs:List Value}(h:w.ownsRow B t size v n cs)(hf:Fr NoT w w'):w'.ownsRow B t size v n cs:=by
 refine⟨h.1,h.2.imp id ?_⟩;rintro⟨g,cap,cur,e1,e2,e3,e4⟩;exact⟨g,cap,cur,e1,e2,(hf.block g (Bk.lt (t:=t) (cs:=cur) e3) id).trans e3,e4⟩
section
variable {C:BgC} {W0 w w' w5 w7:World} {g:Nat} {ty e:TypeId} {v v' u:Value} {vs:List Value} {P:RowP}
theorem MkL.fr0 (h:MkL C W0 w g ty e v vs P)(hP:RwS C P)(hT:C.T<=W0.heap.size)(hf:Fr NoT w w'):MkL C W0 w' g ty e v vs P:=
 ⟨h.fr.trans hf,h.bk.fr0 hf,h.gl,zg9 h.row hf,λi u hu=>by
  obtain⟨lo,hi,h1,h2,h3,h4⟩:=h.vals i u hu;exact⟨lo,hi,hP _ _ _ _ _ _ (Later.of0 hf h3 (leq9 hT h.fr.size)) h1,h2,leq9 h3 hf.size,h4⟩⟩
theorem MkL.step (h:MkL C W0 w g ty e v vs P)(hP:RwS C P)(hT:C.T<=W0.heap.size)(Hj:Fr NoT w w5)(hu:P vs.length u w.heap.size w5.heap.size w5)(Hz:w7.ownsRow (g+1) e 1 v' (vs.length+1) (vs++ [u]))(hg:(w5.alloc (.cells #[u] e)).grownBy w7 v.ownBlock)(hb:v'.ownBlock=v.ownBlock\/v'.ownBlock=some (w5.heap.size+1)):
  MkL C W0 (w7.setCell ⟨g,0,none⟩ v') g ty e v' (vs++ [u]) P:=by
 have Xm:C.T<=w.heap.size:=leq9 hT h.fr.size;have qu:=h.bk.lt;have Gt:Fr NoT w (w5.alloc (.cells #[u] e)):=Hj.alloc _;have Mn:=Gt.size;have NF:=hg.size;simp only[World.size_alloc]at Mn NF;have h5:=Hj.size;have Nt:∀b,v.ownBlock=some b->g+1<=b/\b < w.heap.size:=λb hb=>h.row.lt b hb;have Ze:Fr NoT W0 w7:=by
  have h6:=h.fr.trans Gt;refine⟨hg.os.trans h6.os,hg.tape.trans h6.tape,hg.output.trans h6.output,leq9 h6.size hg.size,λi hi hn=>(hg.block i (ltq hi h6.size) λe=>?_).trans (h6.block i hi hn)⟩;have:=Nt i e.symm;have:=h.gl;omega
 -- blocks that do not turn
 have Zf:∀i,i < w.heap.size->i≠g->v.ownBlock≠some i->(w7.setCell ⟨g,0,none⟩ v').heap[i]?=w.heap[i]?:=λi hi h1 h2=>
  (Below.heap_setCell w7 _ _ i λe=>h1 (by have e:i=g:=e;exact e)).trans ((hg.block i (by simp;omega) λe=>h2 e.symm).trans (Gt.block i hi id))
 have Wb:∀i,i < w5.heap.size->i≠g->v.ownBlock≠some i->(w7.setCell ⟨g,0,none⟩ v').heap[i]?=w5.heap[i]?:=λi hi h1 h2=>
  (Below.heap_setCell w7 _ _ i λe=>h1 (by have e:i=g:=e;exact e)).trans ((hg.block i (by simp;omega) λe=>h2 e.symm).trans (Below.heap_alloc w5 _ i hi))
 have Tq:Bk w7 g ty #[v]:=(hg.block g (by simp;omega) λe=>by have:=Nt g e.symm;omega).trans (h.bk.fr0 Gt);have TQ:∀b,v'.ownBlock=some b->v.ownBlock=some b\/b=w5.heap.size+1:=λb e=>by
  rcases hb with hb|hb
  ·exact .inl (by rw[<-hb];exact e)
  ·rw[hb]at e;exact .inr (Option.some.inj e).symm
 have qv:v'.ownBlock≠some g:=λe=>by
  rcases TQ g e with e|e
  ·have:=Nt g e;omega
  ·omega
 refine⟨Ze.high h.gl 0 _,by simpa using Tq.set_ 0 v',h.gl,?_,λi y hy=>?_⟩
 ·have hl:(vs++ [u]).length =vs.length+1:=by simp
  rw[hl];refine⟨Hz.1,Hz.2.imp id ?_⟩;rintro⟨g',cap,cur,e1,e2,e3,e4⟩;exact⟨g',cap,cur,e1,e2,(Below.heap_setCell w7 _ _ g' λe=>by have e:g'=g:=e;omega).trans e3,e4⟩
 ·by_cases hi:i < vs.length
  ·rw[List.getElem?_append_left hi]at hy;obtain⟨lo,L9,h1,h2,h3,h4,gL⟩:=h.vals i y hy;refine⟨lo,L9,hP _ _ _ _ _ _ ⟨⟨by simp;omega,by simp;omega⟩,λj hj hm=>?_⟩ h1,h2,by simp;omega,h4,λb hb=>?_⟩
   ·have KL:=h.gl;refine Zf j (by omega) (by omega) λe=>?_;have:=gL j e;have:=Nt j e;omega
   ·rcases TQ b hb with e|e
    ·exact gL b e
    ·right;omega
  ·rw[List.getElem?_append_right (by omega)]at hy;have Ko:i - vs.length=0:=by
    have:=(List.getElem?_eq_some_iff.1 hy).1;simp at this;omega
   rw[Ko]at hy;simp at hy;subst hy;obtain rfl:i=vs.length:=by omega
   refine⟨w.heap.size,w5.heap.size,hP _ _ _ _ _ _ ⟨⟨by simp;omega,by simp;omega⟩,λj hj hm=>?_⟩ hu,h.fr.size,by simp;omega,.inl qu,λb hb=>?_⟩
   ·have KL:=h.gl;refine Wb j (by omega) (by omega) λe=>?_;have:=Nt j e;omega
   ·rcases TQ b hb with e|e
    ·exact .inl (Nt b e).2
    ·right;omega
theorem MkL.rowF (h:MkL C W0 w g ty e v vs P):∃A c,v= .slice A vs.length c/\RowF W0.heap.size w.heap.size w A c vs:=by
 rcases h.row.2 with⟨e,h0⟩|⟨b,cap,cur,e,h1,h2,h3,h4,_⟩
 ·rw[h0];exact⟨none,0,e,by rw[h0];exact lrq _,by omega,λhp=>by omega⟩
 ·refine⟨some ⟨b,0,none⟩,cap,e,h3,by unfold maxLen at h4;omega,λhp=>⟨b,rfl,?_,?_,λi u hu=>?_⟩⟩
  ·have:=h.gl;omega
  ·exact Bk.lt (t:=_) (cs:=cur) h2
  ·have h9:=h.row.cells (g:=b) (by rw[e];rfl) i u hu;have ea:(⟨b,0,none⟩:Addr).add i=⟨b,i,none⟩:=by unfold Addr.add;split<;>simp_all
   rw[ea]at h9;exact h9
theorem MkL.zero (hw:Fr NoT W0 w)(hg:W0.heap.size<=g)(hb:Bk w g ty #[.slice none 0 0]):MkL C W0 w g ty e (.slice none 0 0) [] P:=
 ⟨hw,hb,hg,World.ownsRow_nil _ _ _ _,λi u hu=>by simp at hu⟩
end
def askO (X:Bs->Tru)(e:Ho)(s:Bs):Option Ho×Bs:=
 match X s s.left with
 |(.inl h,l)=>(some h,{s with left:=l})
 |(.inr true,l)=>(none,{s with left:=l})
 |(.inr false,l)=>(some e,{s with left:=l})
def ifD (X:Bs->Tru)(D1 D2:Bs->Option Ho->Bs->Prop)(s:Bs)(h:Option Ho)(t:Bs):Prop:=
 match X s s.left with
 |(.inl h',l)=>h=some h'/\t={s with left:=l}
 |(.inr true,l)=>D1 {s with left:=l} h t
 |(.inr false,l)=>D2 {s with left:=l} h t
def ziN (at_:Int)(s:Bs):Option Ho×Bs:=
 match s.left with
 |0=>(some ⟨2,0,at_⟩,s)
 |m+1=>(none,{s with left:=m})
inductive LpR (X:Bs->Tru) (D:Bs->Option Ho->Bs->Prop) (at_:Int):Bs->Option Ho->Bs->Prop
 |ask {s h l}:X s s.left=(.inl h,l)->LpR X D at_ s (some h) {s with left:=l}
 |done {s l}:X s s.left=(.inr false,l)->LpR X D at_ s none {s with left:=l}
 |leave {s l h t}:X s s.left=(.inr true,l)->D {s with left:=l} (some h) t->LpR X D at_ s (some h) t
 |out {s l t}:X s s.left=(.inr true,l)->D {s with left:=l} none t->t.left=0->LpR X D at_ s (some ⟨2,0,at_⟩) t
 |again {s l t m h u}:X s s.left=(.inr true,l)->D {s with left:=l} none t->t.left=m+1->LpR X D at_ {t with left:=m} h u->LpR X D at_ s h u
def lpD (X:Bs->Tru)(D:Bs->Option Ho->Bs->Prop)(at_:Int)(s:Bs)(h:Option Ho)(t:Bs):Prop:=(s.left=0/\h=some ⟨2,0,at_⟩/\t=s)\/∃m,s.left=m+1/\LpR X D at_ {s with left:=m} h t
section
variable {C:BgC} {ps:List (List UInt8)} {w:World} {lo hi q:Nat} {k:Int} {nm:ByteArray} {at_:Int}
theorem ask_1 {x1 y:Nat}{v1:Value}{X:Bs->Tru}{e:Ho}(ho:C.Ok)(hT:C.T<=lo)(h1:Bx lo hi w x1 223 #[v1])(h2:Bx lo hi w y 85 #[.int .u8 e.kind,.int .u8 e.wrong,.int .i64 e.at_])(FN:TruP C ps v1 X lo hi w):
  DoP C ps (.func (.func 178) #[] #[.pointer (some ⟨x1,0,none⟩),.pointer (some ⟨y,0,none⟩)]) (λs h t=>(h,t)=askO X e s) lo hi w:=by
 obtain⟨g1,ye,rfl,F8,Hk⟩:=FN;refine⟨_,_,rfl,enters_of Tryz.func178 (by kernel_rfl) rfl,λW oc nb s h t hW hD=>?_⟩;have c1:=(hW.bx ho hT h1).cell 0;simp only[getsL]at c1;have hy:=hW.bx ho hT h2;obtain⟨ek,ew,ea⟩:=e;simp only at hy;have HY:=hdq (λw1 (hf:Fr (λb=>b=C.R) W w1)=>hy.fr hf (λe=>zgw ho (leq9 hT h2.2.1) (.inl e)));have FW:=hdq (Hk W oc nb s hW);unfold Enters at F8;show Calls Tryz.prog 178 #[.map (some nb),.pointer (some ⟨x1,0,none⟩),.pointer (some ⟨y,0,none⟩)] W (DoQ C oc h t W)
 clear Hk h1 h2 hT ho hW hy;unfold askO at hD;rcases hx:X s s.left with⟨h0|(_|_),l⟩;all_goals
  rw[hx]at hD FW;obtain⟨rfl,rfl⟩:=Prod.mk.inj hD;clear hD hx;go_enter Tryz.func178,Tryz.ntmps178;go_wp2_with fail;refine FW.mono ?_;rintro e w1 ⟨rfl,Fc,Hg⟩
 ·exact⟨rfl,rfl,Fc,Hg.toO⟩
 ·have hy:=HY _ Hg;have y0:=hy.cell 0;have y1:=hy.cell 1;have y2:=hy.cell 2;simp only[getsL]at y0 y1 y2;have HQ:=hdq (show DoQ C oc (some ⟨ek,ew,ea⟩) {s with left:=l} W (endE ⟨ek,ew,ea⟩) w1 from⟨rfl,Fc,Hg.toO⟩);clear Fc Hg hy FW HY c1;unfold zb8;go_wp2_with fail;exact⟨rfl,HQ.out⟩
 ·have HQ:=hdq (show DoQ C oc none {s with left:=l} W (.returned (.tuple #[])) w1 from⟨rfl,Fc,Hg.toO⟩);clear Fc Hg FW HY c1;unfold zb8;go_wp2_with fail;go_end0;exact HQ.out
theorem one_1 {x1 x2 x3:Nat}{v1 v2 v3:Value}{X:Bs->Tru}{D1 D2:Bs->Option Ho->Bs->Prop}(ho:C.Ok)(hT:C.T<=lo)(h1:Bx lo hi w x1 223 #[v1])(h2:Bx lo hi w x2 80 #[v2])(h3:Bx lo hi w x3 80 #[v3])
  (FN:TruP C ps v1 X lo hi w) (Ka:DoP C ps v2 D1 lo hi w) (Kt:DoP C ps v3 D2 lo hi w) (hX:∀s l,(X s l).2 <=l):
  DoP C ps (.func (.func 108) #[] #[.pointer (some ⟨x1,0,none⟩),.pointer (some ⟨x2,0,none⟩),.pointer (some ⟨x3,0,none⟩)]) (ifD X D1 D2) lo hi w:=by
 obtain⟨g1,ye,rfl,F8,Hk⟩:=FN;obtain⟨g2,yg,rfl,KZ,Hq⟩:=Ka;obtain⟨g3,zb,rfl,Sw,QD⟩:=Kt;refine⟨_,_,rfl,enters_of Tryz.func108 (by kernel_rfl) rfl,λW oc nb s h t hW hD=>?_⟩;have c1:=(hW.bx ho hT h1).cell 0;simp only[getsL]at c1;have Lv:=hdq (λW' t (h':RunAt C lo hi w W' ps oc nb t)=>(show W'.cell? ⟨x2,0,none⟩=some (.func (.func g2) #[] yg)from(h'.bx ho hT h2).cell 0));have PZ:=hdq (λW' t (h':RunAt C lo hi w W' ps oc nb t)=>(show W'.cell? ⟨x3,0,none⟩=some (.func (.func g3) #[] zb)from(h'.bx ho hT h3).cell 0));have FW:=hdq (Hk W oc nb s hW);have Lk:=hdq (λW' s h t (h':RunAt C lo hi w W' ps oc nb s) hd=>Hq W' oc nb s h t h' hd);have Xn:=hdq (λW' s h t (h':RunAt C lo hi w W' ps oc nb s) hd=>QD W' oc nb s h t h' hd);have HW:=hdq hW;have TN:=hX s s.left;unfold Enters at F8 KZ Sw;show Calls Tryz.prog 108 #[.map (some nb),.pointer (some ⟨x1,0,none⟩),.pointer (some ⟨x2,0,none⟩),.pointer (some ⟨x3,0,none⟩)] W (DoQ C oc h t W)
 clear Hk Hq QD h1 h2 h3 hT ho hW hX;unfold ifD at hD;rcases hx:X s s.left with⟨h0|(_|_),l⟩;all_goals
  rw[hx]at hD FW TN;have UN:=hdq (show l<=s.left from TN);clear hx TN;have HD:=hdq hD;clear hD;go_enter Tryz.func108,Tryz.ntmps108;go_wp2_with fail;refine FW.mono ?_;rintro e w1 ⟨rfl,Fc,Hg⟩
 ·obtain⟨rfl,rfl⟩:=HD.out;exact⟨rfl,rfl,Fc,Hg.toO⟩
 ·have F5:=HW.next Hg.toO Fc UN.out;have c3:=PZ _ _ F5;have HC:=hdq (Xn _ _ _ _ F5 HD.out);have HF:=hdq (show Fr (C.MutO oc) W w1 from Hg.toO);clear Fc Hg F5 FW c1 HD;unfold zb8;go_wp2_with fail;refine HC.mono ?_;rintro e w2 ⟨rfl,GR,He⟩;have HQ:=hdq (show DoQ C oc h t W (zem h) w2 from⟨rfl,GR,HF.trans He⟩);clear GR He;cases h with
  |some h=>exact⟨rfl,HQ.out⟩
  |none=>
   unfold zem;go_wp2_with fail;go_end0;exact HQ.out
 ·have F5:=HW.next Hg.toO Fc UN.out;have c3:=Lv _ _ F5;have HC:=hdq (Lk _ _ _ _ F5 HD.out);have HF:=hdq (show Fr (C.MutO oc) W w1 from Hg.toO);clear Fc Hg F5 FW c1 HD;unfold zb8;go_wp2_with fail;refine HC.mono ?_;rintro e w2 ⟨rfl,GR,He⟩;have HQ:=hdq (show DoQ C oc h t W (zem h) w2 from⟨rfl,GR,HF.trans He⟩);clear GR He;cases h with
  |some h=>exact⟨rfl,HQ.out⟩
  |none=>
   unfold zem;go_wp2_with fail;go_end0;exact HQ.out
theorem one_3 {p:Nat}{ty:TypeId}{cs:Array Value}(ho:C.Ok)(hT:C.T<=lo)(Gy:PgAt C w)(hp:Bx lo hi w p 69 #[.pointer (some ⟨C.P,0,none⟩)])(hq:Bx lo hi w q ty cs)(h6:cs[6]?=some (.int .i64 at_)):
  DoP C ps (.func (.func 112) #[] #[.pointer (some ⟨p,0,none⟩),.pointer (some ⟨q,0,none⟩)]) (λs h t=>(h,t)=ziN at_ s) lo hi w:=by
 refine⟨_,_,rfl,enters_of Tryz.func112 (by kernel_rfl) rfl,λW oc nb s h t MT hD=>?_⟩;have hW:=MT.fr0 ho (Fr.refl NoT W).drew;have HS:=hdq (λW' t (h':RunAt C lo hi w W' ps oc nb t)=>h'.cts ho hT Gy hp hq (i:=6) h6);have HC:=hdq (zbO hW.st ho at_);have HW:=hdq hW;show Calls Tryz.prog 112 #[.map (some nb),.pointer (some ⟨p,0,none⟩),.pointer (some ⟨q,0,none⟩)] W (DoQ C oc h t W)
 have HD:=hdq hD;obtain⟨R,hR⟩:=nmq C.R;rw[<-hR]at HC;clear hq hp hT hW MT Gy hD ho h6;go_enter Tryz.func112,Tryz.ntmps112;go_wp2_with fail;refine zad (CtS C p q 6 at_) (λ_=>true) (by kernel_rfl) (HS _ _ HW.out) (λhHeld=>?_);refine zaa 4 ?_;simp only[putsL];refine zai 0 hHeld ?_;simp only[putsL];refine zai 5 hHeld ?_;simp only[putsL];refine zaa 1 ?_;simp only[putsL];refine zaa 2 ?_;simp only[putsL];refine zai 3 hHeld ?_;simp only[putsL];refine zab 6 rfl (by kernel_rfl) (λKK hK=>?_);go_simp;go_at_call 110;rw[<-hR];refine HC.mono ?_;rintro e w1 (⟨h0,rfl,rfl⟩|⟨m,hm,rfl,Fc,Hg⟩)
 ·have Fj:=HD.out;unfold ziN at Fj;simp only[h0]at Fj;obtain⟨rfl,rfl⟩:=Prod.mk.inj Fj;exact⟨rfl,rfl,HW.st,(Fr.refl _ _).drew⟩
 have F5:RunAt C lo hi w w1 ps oc nb {s with left:=m}:=HW.next Hg.toO Fc (by show m<=s.left;omega);have hd:=HD.out;unfold ziN at hd;simp only[hm]at hd;obtain⟨rfl,rfl⟩:=Prod.mk.inj hd;have HQ:=hdq (show DoQ C oc none {s with left:=m} W (.returned (.tuple #[])) w1 from⟨rfl,Fc,((Fr.refl _ _).drew.trans Hg).toO⟩);have HH:=hdq (HS _ _ F5);clear Fc Hg F5 hm HC hHeld HD hd;try dsimp only
 refine hK _ _ (λ_ _=>HH.out) ?_;clear hK KK;try simp only[putsL]
 refine zaf (by kernel_rfl) ?_;go_wp2_with fail;go_end0;exact HQ.out
end
def zgz (R:Nat)(w:World):Nat:=match w.cell? ⟨R,6,none⟩with
 |some (.int _ n)=>n.toNat
 |_=>0
theorem BgSt.leftIs {C:BgC}{oc:List Nat}{s:Bs}{w:World}(h:BgSt C oc s w):zgz C.R w=s.left:=by
 obtain⟨As,cs,_,hb⟩:=h.run;have c6:=hb.cell 6;simp only[runV,List.getElem?_toArray,List.getElem?_cons_succ,List.getElem?_cons_zero]at c6;unfold zgz;rw[c6];simp
section
variable {C:BgC} {ps:List (List UInt8)} {w:World} {lo hi q:Nat} {k:Int} {nm:ByteArray} {at_:Int}
theorem one_2 {p x1 x2:Nat}{ty:TypeId}{cs:Array Value}{v1 v2:Value}{X:Bs->Tru}{D:Bs->Option Ho->Bs->Prop}(ho:C.Ok)(hT:C.T<=lo)(Gy:PgAt C w)(hp:Bx lo hi w p 69 #[.pointer (some ⟨C.P,0,none⟩)])(hq:Bx lo hi w q ty cs)(h6:cs[6]?=some (.int .i64 at_))(h1:Bx lo hi w x1 223 #[v1])(h2:Bx lo hi w x2 80 #[v2])
  (FN:TruP C ps v1 X lo hi w) (Ka:DoP C ps v2 D lo hi w) (hX:∀s l,(X s l).2 <=l) (Wc:∀s h t,D s h t->t.left<=s.left):
  DoP C ps (.func (.func 109) #[] #[.pointer (some ⟨p,0,none⟩),.pointer (some ⟨q,0,none⟩),.pointer (some ⟨x1,0,none⟩),.pointer (some ⟨x2,0,none⟩)]) (lpD X D at_) lo hi w:=by
 obtain⟨g1,ye,rfl,F8,Hk⟩:=FN;obtain⟨g2,yg,rfl,KZ,Hq⟩:=Ka;refine⟨_,_,rfl,enters_of Tryz.func109 (by kernel_rfl) rfl,λW oc nb s h t MT hD=>?_⟩;have hW:=MT.fr0 ho (Fr.refl NoT W).drew;have HS:=hdq (λW' t (h':RunAt C lo hi w W' ps oc nb t)=>h'.cts ho hT Gy hp hq (i:=6) h6);have HC:=hdq (λW' t (h':RunAt C lo hi w W' ps oc nb t)=>zbO h'.st ho at_);have Gs:=hdq (λW' t (h':RunAt C lo hi w W' ps oc nb t)=>(show W'.cell? ⟨x1,0,none⟩=some (.func (.func g1) #[] ye)from(h'.bx ho hT h1).cell 0));have Lv:=hdq (λW' t (h':RunAt C lo hi w W' ps oc nb t)=>(show W'.cell? ⟨x2,0,none⟩=some (.func (.func g2) #[] yg)from(h'.bx ho hT h2).cell 0));have FW:=hdq (λW' s (h':RunAt C lo hi w W' ps oc nb s)=>Hk W' oc nb s h');have Lk:=hdq (λW' s h t (h':RunAt C lo hi w W' ps oc nb s) hd=>Hq W' oc nb s h t h' hd);have KN:=hdq (λW' W2 t (h':RunAt C lo hi w W' ps oc nb t) (hf:Fr NoT W' W2)=>h'.fr0 ho hf);have HW:=hdq hW;have HX:=hdq hX;have Zg:=hdq Wc;unfold Enters at F8 KZ;show Calls Tryz.prog 109 #[.map (some nb),.pointer (some ⟨p,0,none⟩),.pointer (some ⟨q,0,none⟩),.pointer (some ⟨x1,0,none⟩),.pointer (some ⟨x2,0,none⟩)] W (DoQ C oc h t W)
 have HD:=hdq hD;obtain⟨R,hR⟩:=nmq C.R;rw[<-hR]at HC;have HR:=hdq hR;clear Hk Hq hq hp h1 h2 hT hW MT Gy hD ho h6 hX Wc hR;go_enter Tryz.func109,Tryz.ntmps109;go_wp2_with fail;refine zad (CtS C p q 6 at_) (λ_=>true) (by kernel_rfl) (HS _ _ HW.out) (λhHeld=>?_);refine zaa 4 ?_;simp only[putsL];refine zai 0 hHeld ?_;simp only[putsL];refine zai 5 hHeld ?_;simp only[putsL];refine zaa 1 ?_;simp only[putsL];refine zaa 2 ?_;simp only[putsL];refine zai 3 hHeld ?_;simp only[putsL];refine zab 6 rfl (by kernel_rfl) (λKK hK=>?_);go_simp;go_at_call 110;rw[<-HR.out];refine(HC _ _ HW.out).mono ?_;rintro e w1 (⟨h0,rfl,rfl⟩|⟨m,hm,rfl,Fc,Hg⟩)
 ·rcases HD.out with⟨_,rfl,rfl⟩|⟨m,hm,_⟩
  ·exact⟨rfl,rfl,HW.st,(Fr.refl _ _).drew⟩
  ·omega
 have F5:RunAt C lo hi w w1 ps oc nb {s with left:=m}:=HW.next Hg.toO Fc (by show m<=s.left;omega);have Kv:LpR X D at_ {s with left:=m} h t:=by
  rcases HD.out with⟨h0,_,_⟩|⟨m',Vl,hl⟩
  ·omega
  ·obtain rfl:m=m':=by omega
   exact hl
 have H1:=hdq F5;have HL:=hdq Kv;have Hs:=hdq (show Fr (C.MutO oc) W w1 from((Fr.refl _ _).drew.trans Hg).toO);clear Fc Hg F5 hm hHeld HD Kv HW;try dsimp only
 refine hK _ _ (λ_ _=>HS _ _ H1.out) ?_;clear hK KK;try simp only[putsL]
 refine zaf (by kernel_rfl) ?_;go_wp2_with fail;go_loopw [13] (λ_ wr=>∃s',Hid (RunAt C lo hi w wr ps oc nb s')/\Hid (LpR X D at_ s' h t)/\Hid (Fr (C.MutO oc) W wr)) (λ_ wr=>zgz C.R wr);case atStart=>exact⟨_,H1,HL,Hs⟩
 case round=>
  clear H1 HL Hs;obtain⟨s1,H1,HL,Hs⟩:=hrel;have c1:=Gs _ _ H1.out;go_wp2_with fail;refine(FW _ _ H1.out).mono ?_;rintro e w2 ⟨rfl,GR,He⟩;have MZ:=HX s1 s1.left;rcases hx:X s1 s1.left with⟨h0|(_|_),l⟩;all_goals
   rw[hx]at GR MZ;have MZ:l<=s1.left:=MZ;have GR:BgSt C oc {s1 with left:=l} w2:=GR;have Fj:=H1.next He.toO GR MZ;have Pt:=Hs.trans He.toO
  ·have hl:=HL.out;cases hl with
   |ask FQ=>rw[hx]at FQ;cases FQ;exact⟨rfl,rfl,GR,Pt⟩
   |done FQ=>rw[hx]at FQ;cases FQ
   |leave FQ _=>rw[hx]at FQ;cases FQ
   |out FQ _ _=>rw[hx]at FQ;cases FQ
   |again FQ _ _ _=>rw[hx]at FQ;cases FQ
  ·have hq:DoQ C oc h t W (.returned (.tuple #[])) w2:=by
    have hl:=HL.out;cases hl with
    |ask FQ=>rw[hx]at FQ;cases FQ
    |done FQ=>rw[hx]at FQ;cases FQ;exact⟨rfl,GR,Pt⟩
    |leave FQ _=>rw[hx]at FQ;cases FQ
    |out FQ _ _=>rw[hx]at FQ;cases FQ
    |again FQ _ _ _=>rw[hx]at FQ;cases FQ
   have HQ:=hdq hq;clear hq GR Fj Pt He MZ hx c1;unfold zb8;go_wp2_with fail;go_end0;exact HQ.out
  ·have H2:=hdq Fj;have Hv:=hdq Pt;have Pv:=hdq hx;have c2:=Lv _ _ Fj;have UN:=hdq MZ;have TR:∃h1 t1,D {s1 with left:=l} h1 t1/\((∃z,h1=some z/\h=some z/\t=t1)\/(h1=none/\t1.left=0/\h=some ⟨2,0,at_⟩/\t=t1)\/(h1=none/\∃m,t1.left=m+1/\LpR X D at_ {t1 with left:=m} h t)):=by
    have hl:=HL.out;cases hl with
    |ask FQ=>rw[hx]at FQ;cases FQ
    |done FQ=>rw[hx]at FQ;cases FQ
    |leave FQ hd=>rw[hx]at FQ;cases FQ;exact⟨_,_,hd,.inl ⟨_,rfl,rfl,rfl⟩⟩
    |out FQ hd h0=>rw[hx]at FQ;cases FQ;exact⟨_,_,hd,.inr (.inl ⟨rfl,h0,rfl,rfl⟩)⟩
    |again FQ hd hm hl=>rw[hx]at FQ;cases FQ;exact⟨_,_,hd,.inr (.inr ⟨rfl,_,hm,hl⟩)⟩
   obtain⟨h1,t1,hd,MU⟩:=TR;have Xn:=hdq (Lk _ _ _ _ Fj hd);have gM:=hdq (Zg _ _ _ hd);have Wd:=hdq MU;clear GR Fj Pt He MZ hx c1 HL MU hd;unfold zb8;go_wp2_with fail;refine Xn.mono ?_;rintro e w3 ⟨rfl,Md,Ga⟩;rcases Wd.out with⟨z,rfl,rfl,rfl⟩|LX
   ·exact⟨rfl,rfl,Md,Hv.trans Ga⟩
   obtain rfl:h1=none:=by rcases LX with⟨e,_⟩|⟨e,_⟩<;>exact e
   have NW:t1.left<=l:=gM.out;have JY:=KN _ _ _ (H2.next Ga Md NW) (Fr.refl NoT w3).drew;have H3:=hdq JY;have Ge:=hdq (show Fr (C.MutO oc) W w3.drew from(Hv.trans Ga).drew);have SS:=hdq LX;have Vw:=hdq NW;clear Md Ga JY LX NW Wd Xn gM c2;unfold zem;go_wp2_with fail;refine zad (CtS C p q 6 at_) (λ_=>true) (by kernel_rfl) (HS _ _ H3.out) (λhHeld=>?_);refine zaa 4 ?_;simp only[putsL];refine zai 0 hHeld ?_;simp only[putsL];refine zai 5 hHeld ?_;simp only[putsL];refine zaa 1 ?_;simp only[putsL];refine zaa 2 ?_;simp only[putsL];refine zai 3 hHeld ?_;simp only[putsL];refine zab 6 rfl (by kernel_rfl) (λKK hK=>?_);go_simp;go_at_call 110;rw[<-HR.out];refine(HC _ _ H3.out).mono ?_;rintro e w4 (⟨h0,rfl,rfl⟩|⟨m,hm,rfl,QU,Hx⟩)
   ·rcases SS.out with⟨_,_,rfl,rfl⟩|⟨_,m,hm,_⟩
    ·exact⟨rfl,rfl,H3.st,Ge.out⟩
    ·omega
   have NK:RunAt C lo hi w w4 ps oc nb {t1 with left:=m}:=H3.next Hx.toO QU (by show m<=t1.left;omega);have Ku:LpR X D at_ {t1 with left:=m} h t:=by
    rcases SS.out with⟨_,h0,_,_⟩|⟨_,m',Vl,hl⟩
    ·omega
    ·obtain rfl:m=m':=by omega
     exact hl
   have HM:=hdq (show zgz C.R w4 < zgz C.R wr by
    rw[NK.st.leftIs,H1.st.leftIs];have h1:=UN.out;have h2:=Vw.out;show m < s1.left
    omega)
   have GN:=hdq (Ge.trans Hx.toO);have H4:=hdq NK;have qw:=hdq Ku;clear QU Hx NK Ku hm SS hHeld;try dsimp only
   refine hK _ _ (λ_ _=>HS _ _ H4.out) ?_;clear hK KK;try simp only[putsL]
   refine zaf (by kernel_rfl) ?_;go_wp2_with fail;go_roundw;case rel=>exact⟨_,H4,qw,GN⟩
   case measure=>exact HM.out
end
