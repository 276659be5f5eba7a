/- big. -/
import Derived.Test.YtfomomaomggpbaaGreatDoorJgBgTru
set_option linter.all false
set_option maxHeartbeats 3200000
set_option maxRecDepth 100000
namespace Go.Proofs.YtfomomaomggpbaaGreatDoor
open Go.RowKit Go.Shelf
def RowF (lo hi:Nat)(w:World)(A:Option Addr)(c:Nat)(vs:List Value):Prop:=vs.length<=c/\c<=9223372036854775807/\(0 < vs.length->∃b,A=some ⟨b,0,none⟩/\lo<=b/\b < hi/\∀(i:Nat) v,vs[i]?=some v->w.cell? ⟨b,i,none⟩=some v)
section
variable {C:BgC} {ps:List (List UInt8)} {w:World} {lo hi q:Nat} {k:Int} {nm:ByteArray} {at_:Int} {A2 A3 A4 A5:Option Addr} {l2 c2 l3 c3 l4 c4 l5 c5:Nat}
theorem RowF.run {A:Option Addr}{c:Nat}{vs:List Value}(hr:RowF lo hi w A c vs)(ho:C.Ok)(hT:C.T<=lo){W:World}{oc:List Nat}{nb:Nat}{s:Bs}(h:RunAt C lo hi w W ps oc nb s):RowF lo hi W A c vs:=
 ⟨hr.1,hr.2.1,λhp=>by
  obtain⟨b,e,h1,h2,h3⟩:=hr.2.2 hp;exact⟨b,e,h1,h2,λi v hv=>(World.cell?_of_block (h.lat.block b (.inr ⟨h1,h2⟩) (zg4 ho (aK hT h1)))).trans (h3 i v hv)⟩⟩
abbrev bgStC (k:Int)(nm:ByteArray)(A2 A3 A4 A5:Option Addr)(l2 c2 l3 c3 l4 c4 l5 c5:Nat)(at_:Int):Array Value:= #[.int .u8 k,.string nm,.slice A2 l2 c2,.slice A3 l3 c3,.slice A4 l4 c4,.slice A5 l5 c5,.int .i64 at_]
def PuS (q x b nb:Nat)(nm:ByteArray)(A:Option Addr)(n c:Nat)(v0 a:Value)(W:World):Prop:=W.cell? ⟨q,1,none⟩=some (.string nm)/\W.cell? ⟨x,0,none⟩=some (.slice A n c)/\W.cell? ⟨b,0,none⟩=some v0/\(Instr.lookup 75 (.map (some nb)) (.string nm) false).run Tryz.prog W= .ok a W
def bgSetO (n:Bn)(ps:List (List UInt8))(nm:ByteArray)(at_:Int)(X0:Bs->Ho ⊕ Int)(s:Bs):Option Ho×Bs:=
 match s.left with
 |0=>(some ⟨2,0,at_⟩,s)
 |m+1=>match X0 {s with left:=m}with
  | .inl h=>(some h,{s with left:=m})
  | .inr x=>(none,setB n ps {s with left:=m} nm x)
theorem put_2 {p x:Nat}{A:Option Addr}{c:Nat}{v0:Value}{X0:Bs->Ho ⊕ Int}(ho:C.Ok)(hT:C.T<=lo)(GE:PgAt C w)(hp:Bx lo hi w p 69 #[.pointer (some ⟨C.P,0,none⟩)])(hq:Bx lo hi w q 51 (bgStC 2 nm A2 A3 A4 A5 l2 c2 l3 c3 l4 c4 l5 c5 at_))
  (hx:Bx lo hi w x 276 #[.slice A 1 c]) (Hi:RowF lo hi w A c [v0]) (hs:nm.size<=9223372036854775807) (MG:InSc C.n ps nm) (Wy:ValP C ps v0 X0 lo hi w):
  DoP C ps (.func (.func 176) #[] #[.pointer (some ⟨p,0,none⟩),.pointer (some ⟨q,0,none⟩),.pointer (some ⟨x,0,none⟩)]) (λs h t=>(h,t)=bgSetO C.n ps nm at_ X0 s) lo hi w:=by
 obtain⟨g1,xi,rfl,Jk,Hn⟩:=Wy;refine⟨_,_,rfl,enters_of Tryz.func176 (by kernel_rfl) rfl,λW oc nb s h t M7 hD=>?_⟩;have hW:=M7.fr0 ho (Fr.refl NoT W).drew;obtain⟨b,rfl,Gz,G2,_⟩:=Hi.2.2 (by simp);have HS:=aA (λW' t (h':RunAt C lo hi w W' ps oc nb t)=>h'.cts ho hT GE hp hq (i:=6) rfl);have HC:=aA (λW' t (h':RunAt C lo hi w W' ps oc nb t)=>zbU h'.st ho at_);have Fz:=aA (λW' t (h':RunAt C lo hi w W' ps oc nb t)=>Hn W' oc nb t h');have HK:=aA (λW' t (h':RunAt C lo hi w W' ps oc nb t)=>(h'.bx ho hT hq).cell 0);have QO:=aA (λW' t (h':RunAt C lo hi w W' ps oc nb t)=>zeK h' hs MG);have HP:=aA (λW' t a (h':RunAt C lo hi w W' ps oc nb t) (hl:(Instr.lookup 75 (.map (some nb)) (.string nm) false).run Tryz.prog W'= .ok a W')=>(show PuS q x b nb nm (some ⟨b,0,none⟩) 1 c (.func (.func g1) #[] xi) a W' from⟨(h'.bx ho hT hq).cell 1,(h'.bx ho hT hx).cell 0,by
  obtain⟨b',e,_,_,hc⟩:=(Hi.run ho hT h').2.2 (by simp);obtain rfl:b=b':=by simpa using e
  exact hc 0 _ rfl,hl⟩))
 have La:=aA (λW' W2 t (h':RunAt C lo hi w W' ps oc nb t) (hf:Fr NoT W' W2)=>h'.fr0 ho hf);have U1:1<=c:=Hi.1;have HO:=aA ho;have HW:=aA hW;unfold Enters at Jk;show Calls Tryz.prog 176 #[.map (some nb),.pointer (some ⟨p,0,none⟩),.pointer (some ⟨q,0,none⟩),.pointer (some ⟨x,0,none⟩)] W (DoQ C oc h t W)
 have HD:=aA hD;obtain⟨R,hR⟩:=aF C.R;rw[<-hR]at HC;clear Hn hq hp hx Hi hT hs MG hW M7 GE hD ho Gz G2;go_enter Tryz.func176,Tryz.ntmps176;go_wp2_with fail;refine zad (CtS C p q 6 at_) (λ_=>true) (by kernel_rfl) (HS _ _ HW.out) (λaC=>?_);refine zaa 4 ?_;simp only[aB];refine zac 0 aC ?_;simp only[aB];refine zac 5 aC ?_;simp only[aB];refine zaa 1 ?_;simp only[aB];refine zaa 2 ?_;simp only[aB];refine zac 3 aC ?_;simp only[aB];refine zab 6 rfl (by kernel_rfl) (λKK hK=>?_);go_simp;go_at_call 110;rw[<-hR];refine(HC _ _ HW.out).mono ?_;rintro e w1 (⟨h0,rfl,rfl⟩|⟨m,hm,rfl,GV,Hd⟩)
 ·have GT:=HD.out;unfold bgSetO at GT;simp only[h0]at GT;obtain⟨rfl,rfl⟩:=Prod.mk.inj GT;exact⟨rfl,rfl,HW.st,aH.drew⟩
 have Jg:RunAt C lo hi w w1 ps oc nb {s with left:=m}:=HW.next Hd.toO GV (by show m<=s.left;omega);have hd:=HD.out;unfold bgSetO at hd;simp only[hm]at hd;have H1:=aA Jg;have Hl:=aA (show Fr (C.MutO oc) W w1 from(aH.drew.trans Hd).toO);have LD:=aA hd;have c3:=HK _ _ Jg;clear GV Hd Jg hm HC hR aC HD hd;try dsimp only
 refine hK _ _ (λ_ _=>HS _ _ H1.out) ?_;clear hK KK;try simp only[aB]
 refine zae (by kernel_rfl) ?_;go_wp2_with fail;have NS:=La _ _ _ H1.out (Fr.refl NoT w1).drew;obtain⟨b2,o2,J5,FE,Jh,K3⟩:=QO _ _ NS;have HL:=aA J5;have yg:=aA FE;have PD:=aA Jh;have HM:=aA K3.1;refine zad (PuS q x b nb nm (some ⟨b,0,none⟩) 1 c (.func (.func g1) #[] xi) (.pointer (some ⟨b2,o2,none⟩))) (λi=>decide (i < 9)) (by kernel_rfl) (HP _ _ _ NS (J5 _ aH)) (λaC=>?_);have Uu:=aA NS;clear NS J5 FE Jh K3 c3;refine zaa 0 ?_;simp only[aB];refine zaa 1 ?_;simp only[aB];refine zaa 7 ?_;simp only[aB];refine zac 2 aC ?_;simp only[aB];refine zac 4 aC ?_;simp only[aB];refine zac 3 aC ?_;simp only[aB];refine zaa 5 ?_;simp only[aB];refine zac 6 aC ?_;simp only[aB];refine zab 8 rfl (by kernel_rfl) (λKK hK=>?_);go_simp;refine(Fz _ _ Uu.out).mono ?_;rintro e w2 ⟨he,He⟩;rcases JW:X0 {s with left:=m}with WM|a
 ·rw[JW]at he;obtain rfl:=he;have JA:=LD.out;simp only[JW]at JA;obtain⟨rfl,rfl⟩:=Prod.mk.inj JA;exact⟨rfl,rfl,(La _ _ _ Uu.out He).st,Hl.trans ((Fr.refl NoT w1).drew.trans He).any⟩
 rw[JW]at he;obtain⟨rfl,ha⟩:=he;have h2:=La _ _ _ Uu.out He;obtain⟨z0,_,z1,z2⟩:=yg _ _ h2.st;have Me:=PD _ _ a HO.out h2.st ha;have JA:=LD.out;simp only[JW]at JA;obtain⟨rfl,rfl⟩:=Prod.mk.inj JA;have Kb:Fr (C.MutO oc) W (w2.setCell ⟨b2,o2,none⟩ (.int .i64 a)):=(Hl.trans ((Fr.refl NoT w1).drew.trans He).any).setCell (p:=⟨b2,o2,none⟩) (.inl HM.out) _;have HQ:=aA (show DoQ C oc none (setB C.n ps {s with left:=m} nm a) W (.returned (.tuple #[])) (w2.setCell ⟨b2,o2,none⟩ (.int .i64 a))from⟨rfl,Me,Kb⟩);have Nq:=aA (HP _ _ _ h2 (HL _ He.any));clear JA Me Kb h2 He ha LD JW;try dsimp only
 refine hK _ _ (λ_ _=>Nq.out) ?_;clear hK KK;try simp only[aB]
 refine zaa 9 ?_;simp only[aB];refine zab 10 rfl (by kernel_rfl) (λKK hK=>?_);go_simp;refine hK _ _ (λh=>absurd h (by decide)) ?_;clear hK KK;try simp only[aB]
 refine zae (by kernel_rfl) ?_;go_wp2_with fail;go_end0;exact HQ.out
end
abbrev DoR:=Bs->Option Ho->Bs->Prop
def seqD:List DoR->DoR
 | [],s,h,t=>h=none/\t=s
 |D::r,s,h,t=>(∃z,h=some z/\D s (some z) t)\/∃u,D s none u/\seqD r u h t
section
variable {C:BgC} {ps:List (List UInt8)} {w:World} {lo hi q:Nat} {k:Int} {nm:ByteArray} {at_:Int}
theorem all_1 {x:Nat}{A:Option Addr}{c:Nat}{vs:List Value}{Ds:List DoR}(ho:C.Ok)(hT:C.T<=lo)(hx:Bx lo hi w x 147 #[.slice A vs.length c])(Hi:RowF lo hi w A c vs)(hlen:vs.length=Ds.length)(hv:∀(i:Nat) v D,vs[i]?=some v->Ds[i]?=some D->DoP C ps v D lo hi w)(WX:∀D∈Ds,∀s h t,D s h t->t.left<=s.left):
  DoP C ps (.func (.func 55) #[] #[.pointer (some ⟨x,0,none⟩)]) (seqD Ds) lo hi w:=by
 refine⟨_,_,rfl,enters_of Tryz.func55 (by kernel_rfl) rfl,λW oc nb s h t hW hD=>?_⟩;have c0:=(hW.bx ho hT hx).cell 0;simp only[List.getElem?_toArray,List.getElem?_cons_zero]at c0;obtain⟨n,hn⟩:=aF vs.length;rw[<-hn]at c0;have Ve:n<=c:=by rw[hn];exact Hi.1
 have G7:c<=9223372036854775807:=Hi.2.1;have FP:=aA (λW' t (h':RunAt C lo hi w W' ps oc nb t)=>Hi.run ho hT h');have HV:=aA hv;have HN:=aA hn;have PE:=aA hlen;have ge:=aA WX;have HD:=aA hD;have HW:=aA hW;show Calls Tryz.prog 55 #[.map (some nb),.pointer (some ⟨x,0,none⟩)] W (DoQ C oc h t W)
 clear hx Hi hlen hv WX hD hW hn hT ho;go_enter Tryz.func55,Tryz.ntmps55;go_wp2_with fail;go_loopw [7] (λi wr=>∃(k:Nat)(s':Bs),k<=n/\i= .int .i64 k/\Hid (RunAt C lo hi w wr ps oc nb s')/\Hid (seqD (Ds.drop k) s' h t)/\Hid (Fr (C.MutO oc) W wr)) (λi _=>n - (intOf i).toNat);case atStart=>exact⟨0,s,Nat.zero_le _,rfl,HW,aA (by rw[List.drop_zero];exact HD.out),aA aH⟩
 case round=>
  clear HW HD c0;obtain⟨k,s',hk,rfl,H1,HS,HF⟩:=hrel;by_cases Hk:k < n
  ·have J4:k < vs.length:=by rw[<-HN.out];exact Hk
   have gf:k < Ds.length:=by rw[<-PE.out];exact J4
   obtain⟨v,ev⟩:∃v,vs[k]?=some v:=⟨_,List.getElem?_eq_getElem J4⟩;obtain⟨D,eD⟩:∃D,Ds[k]?=some D:=⟨_,List.getElem?_eq_getElem gf⟩;have L9:Ds.drop k=D::Ds.drop (k+1):=by
    rw[List.drop_eq_getElem_cons gf]
    congr 1
    exact(List.getElem?_eq_some_iff.1 eD).2
   have hs:=HS.out;rw[L9]at hs;obtain⟨b,rfl,Gz,G2,j5⟩:=(FP _ _ H1.out).2.2 (by omega);have FE:=j5 k v ev;obtain⟨g,caps,rfl,hg,H9⟩:=HV k v D ev eD;have Gj:(k:Int) < (n:Int):=by omega
   have Uv:∃h1 t1,D s' h1 t1/\((∃z,h1=some z/\h=some z/\t=t1)\/(h1=none/\seqD (Ds.drop (k+1)) t1 h t)):=by
    rcases hs with⟨z,rfl,hd⟩|⟨u,hd,hr⟩
    ·exact⟨_,_,hd,.inl ⟨z,rfl,rfl,rfl⟩⟩
    ·exact⟨_,_,hd,.inr ⟨rfl,hr⟩⟩
   obtain⟨h1,t1,hd,M8⟩:=Uv;have HC:=aA (H9 wr oc nb s' h1 t1 H1.out hd);have Fw:=ge D (List.mem_of_getElem? eD) _ _ _ hd;have WY:=aA M8;have yh:=aA Fw;unfold Enters at hg;clear hs L9 H9 hd M8 Fw ev eD J4 gf j5 Gz G2 HS;go_wp2_with fail;refine HC.mono ?_;rintro e w2 ⟨rfl,GH,He⟩;rcases WY.out with⟨z,rfl,rfl,rfl⟩|⟨rfl,hr⟩
   ·exact⟨rfl,rfl,GH,HF.trans He⟩
   have H2:=aA (H1.next He GH yh.out);have Hu:=aA (HF.trans He);have HR:=aA hr;clear GH He hr WY HC FE;unfold zeI;go_wp2_with fail;go_roundw;case rel=>exact⟨k+1,t1,by omega,by go_num,H2,HR,Hu⟩
   case measure=>simp[intOf];omega
  ·have Qa:k=n:=by omega
   have hs:=HS.out;rw[List.drop_of_length_le (by rw[<-PE.out,<-HN.out];omega)]at hs;obtain⟨rfl,rfl⟩:=hs;have G9:¬(k:Int) < (n:Int):=by omega
   have HQ:=aA (show DoQ C oc none t W (.returned (.tuple #[])) wr from⟨rfl,H1.st,HF.out⟩);clear HS Qa Hk;go_wp2_with fail;go_end0;exact HQ.out
end
def PtS (x b:Nat)(A:Option Addr)(n c:Nat)(v0 v1:Value)(W:World):Prop:=W.cell? ⟨x,0,none⟩=some (.slice A n c)/\W.cell? ⟨b,0,none⟩=some v0/\W.cell? ⟨b,1,none⟩=some v1
def zqg (C:BgC)(p q:Nat)(nm:ByteArray)(at_:Int)(vs:Value)(W:World):Prop:=W.cell? ⟨p,0,none⟩=some (.pointer (some ⟨C.P,0,none⟩))/\W.cell? ⟨C.P,1,none⟩=some (.map (some C.MA))/\W.cell? ⟨q,1,none⟩=some (.string nm)/\W.cell? ⟨q,6,none⟩=some (.int .i64 at_)/\(Instr.lookup 70 (.map (some C.MA)) (.string nm) false).run Tryz.prog W= .ok vs W
def InS (C:BgC)(p q nb:Nat)(nm:ByteArray)(a:Value)(b o n c:Nat)(x:Int)(W:World):Prop:=W.cell? ⟨p,0,none⟩=some (.pointer (some ⟨C.P,0,none⟩))/\W.cell? ⟨C.P,0,none⟩=some (.pointer (some ⟨C.R,0,none⟩))/\W.cell? ⟨q,1,none⟩=some (.string nm)/\(Instr.lookup 75 (.map (some nb)) (.string nm) false).run Tryz.prog W= .ok a W/\W.cell? ⟨C.R,0,none⟩=some (.slice (some ⟨b,o,none⟩) n c)/\W.cell? ⟨b,o,none⟩=some (.int .i64 x)
def stoO (n:Bn)(nm:ByteArray)(at_:Int)(X0 X1:Bs->Ho ⊕ Int)(s:Bs):Option Ho×Bs:=
 match s.left with
 |0=>(some ⟨2,0,at_⟩,s)
 |m+1=>match X0 {s with left:=m}with
  | .inl h=>(some h,{s with left:=m})
  | .inr a=>match X1 {s with left:=m}with
   | .inl h=>(some h,{s with left:=m})
   | .inr b=>if 0<=a/\a < (s.ls.getD (arrI n nm) []).length then(none,{s with left:=m,ls:=s.ls.set (arrI n nm) ((s.ls.getD (arrI n nm) []).set a.toNat b)})else(some ⟨5,5,at_⟩,{s with left:=m})
def inpO (n:Bn)(ps:List (List UInt8))(nm:ByteArray)(at_:Int)(s:Bs):Option Ho×Bs:=
 match s.left with
 |0=>(some ⟨2,0,at_⟩,s)
 |m+1=>match s.script with
  | []=>(some ⟨3,0,at_⟩,{s with left:=m})
  |x::q=>(none,setB n ps {s with left:=m,script:=q} nm x)
theorem zhN (n:Bn)(ps:List (List UInt8))(s:Bs)(nm:ByteArray)(x:Int)(q:List Int):setB n ps {s with script:=q} nm x={setB n ps s nm x with script:=q}/\(setB n ps s nm x).script =s.script:=by
 unfold setB;cases posI ps nm.data.toList<;>exact⟨rfl,rfl⟩
section
variable {C:BgC} {ps:List (List UInt8)} {w:World} {lo hi q:Nat} {k:Int} {nm:ByteArray} {at_:Int} {A2 A3 A4 A5:Option Addr} {l2 c2 l3 c3 l4 c4 l5 c5:Nat}
theorem put_3 {p x i:Nat}{A:Option Addr}{c:Nat}{v0 v1:Value}{X0 X1:Bs->Ho ⊕ Int}(ho:C.Ok)(hT:C.T<=lo)(GE:PgAt C w)(hp:Bx lo hi w p 69 #[.pointer (some ⟨C.P,0,none⟩)])(hq:Bx lo hi w q 51 (bgStC 3 nm A2 A3 A4 A5 l2 c2 l3 c3 l4 c4 l5 c5 at_))
  (hx:Bx lo hi w x 276 #[.slice A 2 c]) (Hi:RowF lo hi w A c [v0,v1]) (hs:nm.size<=9223372036854775807) (Mr:posI C.n.arrs nm.data.toList=some i) (Wy:ValP C ps v0 X0 lo hi w) (F5:ValP C ps v1 X1 lo hi w):
  DoP C ps (.func (.func 176) #[] #[.pointer (some ⟨p,0,none⟩),.pointer (some ⟨q,0,none⟩),.pointer (some ⟨x,0,none⟩)]) (λs h t=>(h,t)=stoO C.n nm at_ X0 X1 s) lo hi w:=by
 obtain⟨g1,xi,rfl,Jk,Hn⟩:=Wy;obtain⟨g2,xj,rfl,Lz,Ht⟩:=F5;refine⟨_,_,rfl,enters_of Tryz.func176 (by kernel_rfl) rfl,λW oc nb s h t M7 hD=>?_⟩;have hW:=M7.fr0 ho (Fr.refl NoT W).drew;obtain⟨b,rfl,Gz,G2,_⟩:=Hi.2.2 (by simp);have HS:=aA (λW' t (h':RunAt C lo hi w W' ps oc nb t)=>h'.cts ho hT GE hp hq (i:=6) rfl);have HC:=aA (λW' t (h':RunAt C lo hi w W' ps oc nb t)=>zbU h'.st ho at_);have Fz:=aA (λW' t (h':RunAt C lo hi w W' ps oc nb t)=>Hn W' oc nb t h');have LL:=aA (λW' t (h':RunAt C lo hi w W' ps oc nb t)=>Ht W' oc nb t h');have HK:=aA (λW' t (h':RunAt C lo hi w W' ps oc nb t)=>(h'.bx ho hT hq).cell 0);have yi:=aA (λW' t (h':RunAt C lo hi w W' ps oc nb t)=>zf5 (GE.run ho h') hs Mr h'.st);have HP:=aA (λW' t (h':RunAt C lo hi w W' ps oc nb t)=>(show PtS x b (some ⟨b,0,none⟩) 2 c (.func (.func g1) #[] xi) (.func (.func g2) #[] xj) W' from by
  obtain⟨b',e,_,_,hc⟩:=(Hi.run ho hT h').2.2 (by simp);obtain rfl:b=b':=by simpa using e
  exact⟨(h'.bx ho hT hx).cell 0,hc 0 _ rfl,hc 1 _ rfl⟩))
 have HT:=aA (λW' t a (h':RunAt C lo hi w W' ps oc nb t) (hl:(Instr.lookup 70 (.map (some C.MA)) (.string nm) false).run Tryz.prog W'= .ok a W')=>(show zqg C p q nm at_ a W' from⟨(h'.bx ho hT hp).cell 0,(GE.run ho h').p.cell 1,(h'.bx ho hT hq).cell 1,(h'.bx ho hT hq).cell 6,hl⟩));have La:=aA (λW' W2 t (h':RunAt C lo hi w W' ps oc nb t) (hf:Fr NoT W' W2)=>h'.fr0 ho hf);have U1:2<=c:=Hi.1;have HO:=aA ho;have Vq:=aA (show arrI C.n nm=i by unfold arrI;rw[Mr];rfl);have HW:=aA hW;unfold Enters at Jk Lz;show Calls Tryz.prog 176 #[.map (some nb),.pointer (some ⟨p,0,none⟩),.pointer (some ⟨q,0,none⟩),.pointer (some ⟨x,0,none⟩)] W (DoQ C oc h t W)
 have HD:=aA hD;obtain⟨R,hR⟩:=aF C.R;rw[<-hR]at HC;clear Hn Ht hq hp hx Hi hT hs Mr hW M7 GE hD ho Gz G2;go_enter Tryz.func176,Tryz.ntmps176;go_wp2_with fail;refine zad (CtS C p q 6 at_) (λ_=>true) (by kernel_rfl) (HS _ _ HW.out) (λaC=>?_);refine zaa 4 ?_;simp only[aB];refine zac 0 aC ?_;simp only[aB];refine zac 5 aC ?_;simp only[aB];refine zaa 1 ?_;simp only[aB];refine zaa 2 ?_;simp only[aB];refine zac 3 aC ?_;simp only[aB];refine zab 6 rfl (by kernel_rfl) (λKK hK=>?_);go_simp;go_at_call 110;rw[<-hR];refine(HC _ _ HW.out).mono ?_;rintro e w1 (⟨h0,rfl,rfl⟩|⟨m,hm,rfl,GV,Hd⟩)
 ·have GT:=HD.out;unfold stoO at GT;simp only[h0]at GT;obtain⟨rfl,rfl⟩:=Prod.mk.inj GT;exact⟨rfl,rfl,HW.st,aH.drew⟩
 have Jg:RunAt C lo hi w w1 ps oc nb {s with left:=m}:=HW.next Hd.toO GV (by show m<=s.left;omega);have hd:=HD.out;unfold stoO at hd;simp only[hm]at hd;have H1:=aA Jg;have Hl:=aA (show Fr (C.MutO oc) W w1 from(aH.drew.trans Hd).toO);have LD:=aA hd;have c3:=HK _ _ Jg;clear GV Hd Jg hm HC hR aC HD hd;try dsimp only
 refine hK _ _ (λ_ _=>HS _ _ H1.out) ?_;clear hK KK;try simp only[aB]
 refine zae (by kernel_rfl) ?_;go_wp2_with fail;have NS:=La _ _ _ H1.out (Fr.refl NoT w1).drew;refine zad (PtS x b (some ⟨b,0,none⟩) 2 c (.func (.func g1) #[] xi) (.func (.func g2) #[] xj)) (λ_=>true) (by kernel_rfl) (HP _ _ NS) (λaC=>?_);have Uu:=aA NS;clear NS c3;refine zaa 3 ?_;simp only[aB];refine zaa 8 ?_;simp only[aB];refine zac 0 aC ?_;simp only[aB];refine zac 5 aC ?_;simp only[aB];refine zaa 1 ?_;simp only[aB];refine zaa 6 ?_;simp only[aB];refine zac 2 aC ?_;simp only[aB];refine zac 7 aC ?_;simp only[aB];refine zab 4 rfl (by kernel_rfl) (λKK hK=>?_);go_simp;refine(Fz _ _ Uu.out).mono ?_;rintro e w2 ⟨he,He⟩;rcases JW:X0 {s with left:=m}with WM|a
 ·rw[JW]at he;obtain rfl:=he;have JA:=LD.out;simp only[JW]at JA;obtain⟨rfl,rfl⟩:=Prod.mk.inj JA;exact⟨rfl,rfl,(La _ _ _ Uu.out He).st,Hl.trans ((Fr.refl NoT w1).drew.trans He).any⟩
 rw[JW]at he;obtain⟨rfl,ha⟩:=he;have H2:=aA (La _ _ _ Uu.out He);have Hu:=aA (show Fr (C.MutO oc) W w2 from Hl.trans ((Fr.refl NoT w1).drew.trans He).any);have WR:=aA JW;clear He ha JW Fz;try dsimp only
 refine hK _ _ (λ_ _=>HP _ _ H2.out) ?_;clear hK KK;try simp only[aB]
 refine zab 9 rfl (by kernel_rfl) (λKK hK=>?_);go_simp;refine(LL _ _ H2.out).mono ?_;rintro e w3 ⟨he,Gg⟩;rcases Ff:X1 {s with left:=m}with hH|d
 ·rw[Ff]at he;obtain rfl:=he;have JA:=LD.out;simp only[WR.out,Ff]at JA;obtain⟨rfl,rfl⟩:=Prod.mk.inj JA;exact⟨rfl,rfl,(La _ _ _ H2.out Gg).st,Hu.trans Gg.any⟩
 rw[Ff]at he;obtain⟨rfl,WZ⟩:=he;have H3:=aA (La _ _ _ H2.out Gg);have Yn:=aA (La _ _ _ H3.out (Fr.refl NoT w3).drew);have Gi:=aA (show Fr (C.MutO oc) W w3.drew from Hu.trans (Gg.drew).any);have LE:=LD.out;simp only[WR.out,Ff]at LE;have Td:=aA LE;have S4:=aA WZ;clear Gg WZ Ff LD WR LE;try dsimp only
 refine hK _ _ (λ_ _=>HP _ _ H3.out) ?_;clear hK KK;try simp only[aB]
 refine zaa 10 ?_;simp only[aB];refine zaa 11 ?_;simp only[aB];refine zae (by kernel_rfl) ?_;go_wp2_with fail;obtain⟨gb,l,Nl,hl,GY,Fw,Hr,Kg,J5⟩:=yi _ _ Yn.out;have HE:=aA (λW'=>zeJ gb l.length a at_ Fw W');obtain⟨z,hz⟩:=aF l.length;rw[<-hz]at HE J5;refine zad (zqg C p q nm at_ (.slice (some ⟨gb,0,none⟩) z z)) (λi=>decide (i < 13)) (by kernel_rfl) (HT _ _ _ Yn.out J5) (λaC=>?_);have j6:=aA Nl;have yj:=aA hl;have Vv:=aA GY;have F4:=aA Hr;have HZ:=aA hz;have HH:=aA aC;clear Nl hl GY Hr hz J5 Kg Fw;refine zaa 4 ?_;simp only[aB];refine zaa 7 ?_;simp only[aB];refine zaa 8 ?_;simp only[aB];refine zaa 11 ?_;simp only[aB];refine zac 0 aC ?_;simp only[aB];refine zac 5 aC ?_;simp only[aB];refine zac 9 aC ?_;simp only[aB];refine zaa 1 ?_;simp only[aB];refine zaa 2 ?_;simp only[aB];refine zac 3 aC ?_;simp only[aB];refine zac 6 aC ?_;simp only[aB];refine zab 10 rfl (by kernel_rfl) (λKK hK=>?_);go_simp;go_at_call 177;refine(HE _).mono ?_;rintro e w4 ⟨rfl,Ku⟩;have P3:=Td.out;rw[show s.ls.getD (arrI C.n nm) []=l from Vv.out]at P3;rw[<-HZ.out]at P3;rcases Ku with⟨h0,h1,rfl⟩|⟨h0,rfl⟩;case inr=>
  rw[if_neg h0]at P3;obtain⟨rfl,rfl⟩:=Prod.mk.inj P3;exact⟨rfl,rfl,Yn.st,Gi.out⟩
 rw[if_pos ⟨h0,h1⟩,Vq.out]at P3;obtain⟨rfl,rfl⟩:=Prod.mk.inj P3;have Jh:=Yn.st.setA HO.out j6.out yj.out a.toNat S4.out;have z1:=F4.frozen a.toNat;have z2:=F4.lt;obtain⟨y0,z0⟩:∃y,w3.drew.cell? ⟨gb,a.toNat,none⟩=some y:=by
  have RE:a.toNat < l.length:=by rw[<-HZ.out];omega
  have:=F4.cell a.toNat;rw[this];exact⟨_,by simp[intL,List.getElem?_eq_getElem RE];rfl⟩
 have hq:DoQ C oc none _ W (.returned (.tuple #[])) (w3.drew.setCell ⟨gb,a.toNat,none⟩ (.int .i64 d)):=⟨rfl,Jh,Gi.setCell (p:=⟨gb,a.toNat,none⟩) (.inl (.inl (.inr (.inr (.inl (List.mem_of_getElem? j6.out)))))) _⟩;have HQ:=aA hq;clear Jh P3 h0 h1 hq;try dsimp only
 refine hK _ _ (λ_ _=>HH.out) ?_;clear hK KK;try simp only[aB]
 refine zaa 12 ?_;simp only[aB];refine zab 13 rfl (by kernel_rfl) (λKK hK=>?_);go_simp;refine hK _ _ (λh=>absurd h (by decide)) ?_;clear hK KK;try simp only[aB]
 refine zae (by kernel_rfl) ?_;go_wp2_with fail;go_end0;exact HQ.out
end
section
variable {C:BgC} {ps:List (List UInt8)} {w:World} {lo hi q:Nat} {k:Int} {nm:ByteArray} {at_:Int} {A2 A3 A4 A5:Option Addr} {l2 c2 l3 c3 l4 c4 l5 c5:Nat}
theorem put_4 {p x:Nat}{xs:Array Value}(ho:C.Ok)(hT:C.T<=lo)(GE:PgAt C w)(hp:Bx lo hi w p 69 #[.pointer (some ⟨C.P,0,none⟩)])(hq:Bx lo hi w q 51 (bgStC 4 nm A2 A3 A4 A5 l2 c2 l3 c3 l4 c4 l5 c5 at_))
  (hs:nm.size<=9223372036854775807) (MG:InSc C.n ps nm):
  DoP C ps (.func (.func 176) #[] #[.pointer (some ⟨p,0,none⟩),.pointer (some ⟨q,0,none⟩),.pointer (some ⟨x,0,none⟩)]) (λs h t=>(h,t)=inpO C.n ps nm at_ s) lo hi w:=by
 refine⟨_,_,rfl,enters_of Tryz.func176 (by kernel_rfl) rfl,λW oc nb s h t M7 hD=>?_⟩;have hW:=M7.fr0 ho (Fr.refl NoT W).drew;have HS:=aA (λW' t (h':RunAt C lo hi w W' ps oc nb t)=>h'.cts ho hT GE hp hq (i:=6) rfl);have HC:=aA (λW' t (h':RunAt C lo hi w W' ps oc nb t)=>zbU h'.st ho at_);have HK:=aA (λW' t (h':RunAt C lo hi w W' ps oc nb t)=>(h'.bx ho hT hq).cell 0);have QO:=aA (λW' t (h':RunAt C lo hi w W' ps oc nb t)=>zeK h' hs MG);have HP:=aA (λW' t a b o n c x (h':RunAt C lo hi w W' ps oc nb t) (hl:(Instr.lookup 75 (.map (some nb)) (.string nm) false).run Tryz.prog W'= .ok a W') (h1:W'.cell? ⟨C.R,0,none⟩=some (.slice (some ⟨b,o,none⟩) n c)) (h2:W'.cell? ⟨b,o,none⟩=some (.int .i64 x))=>(show InS C p q nb nm a b o n c x W' from⟨(h'.bx ho hT hp).cell 0,(GE.run ho h').p.cell 0,(h'.bx ho hT hq).cell 1,hl,h1,h2⟩));have La:=aA (λW' W2 t (h':RunAt C lo hi w W' ps oc nb t) (hf:Fr NoT W' W2)=>h'.fr0 ho hf);have HO:=aA ho;have HW:=aA hW;show Calls Tryz.prog 176 #[.map (some nb),.pointer (some ⟨p,0,none⟩),.pointer (some ⟨q,0,none⟩),.pointer (some ⟨x,0,none⟩)] W (DoQ C oc h t W)
 have HD:=aA hD;obtain⟨R,hR⟩:=aF C.R;rw[<-hR]at HC;clear hq hp hT hs MG hW M7 GE hD ho;go_enter Tryz.func176,Tryz.ntmps176;go_wp2_with fail;refine zad (CtS C p q 6 at_) (λ_=>true) (by kernel_rfl) (HS _ _ HW.out) (λaC=>?_);refine zaa 4 ?_;simp only[aB];refine zac 0 aC ?_;simp only[aB];refine zac 5 aC ?_;simp only[aB];refine zaa 1 ?_;simp only[aB];refine zaa 2 ?_;simp only[aB];refine zac 3 aC ?_;simp only[aB];refine zab 6 rfl (by kernel_rfl) (λKK hK=>?_);go_simp;go_at_call 110;rw[<-hR];refine(HC _ _ HW.out).mono ?_;rintro e w1 (⟨h0,rfl,rfl⟩|⟨m,hm,rfl,GV,Hd⟩)
 ·have GT:=HD.out;unfold inpO at GT;simp only[h0]at GT;obtain⟨rfl,rfl⟩:=Prod.mk.inj GT;exact⟨rfl,rfl,HW.st,aH.drew⟩
 have Jg:RunAt C lo hi w w1 ps oc nb {s with left:=m}:=HW.next Hd.toO GV (by show m<=s.left;omega);have hd:=HD.out;unfold inpO at hd;simp only[hm]at hd;have H1:=aA Jg;have Hl:=aA (show Fr (C.MutO oc) W w1 from(aH.drew.trans Hd).toO);have LD:=aA hd;have c3:=HK _ _ Jg;obtain⟨d0,d1,d2⟩:=HS _ _ Jg;obtain⟨As,cs,Gq,Hr⟩:=GV.run;have d3:=Hr.cell 0;simp only[runV,List.getElem?_toArray,List.getElem?_cons_zero]at d3;have Pf:=aA Gq;have F4:=aA Hr;clear GV Hd Jg hm HC aC HD hd Gq Hr;try dsimp only
 refine hK _ _ (λ_ _=>HS _ _ H1.out) ?_;clear hK KK;try simp only[aB]
 refine zae (by kernel_rfl) ?_;have Gp:s.script= []\/∃x0 r,s.script=x0::r:=by
  cases s.script with
  |nil=>exact .inl rfl
  |cons x r=>exact .inr ⟨x,r,rfl⟩
 rcases Gp with KS|⟨x0,r,KS⟩
 ·have LE:=LD.out;simp only[KS]at LE;obtain⟨rfl,rfl⟩:=Prod.mk.inj LE;rw[KS]at d3;have Gu:BgSt C oc {s with left:=m,script:= []} w1:=by
   have h9:=H1.st;rw[show({s with left:=m}:Bs)={s with left:=m,script:= []} by rw[<-KS]]at h9;exact h9
  have HQ:=aA (show DoQ C oc (some ⟨3,0,at_⟩) {s with left:=m,script:= []} W (endE ⟨3,0,at_⟩) w1 from⟨rfl,Gu,Hl.out⟩);clear LE LD Pf F4 KS hR Gu;go_wp2_with fail;exact⟨rfl,HQ.out⟩
 ·have LE:=LD.out;simp only[KS]at LE;obtain⟨rfl,rfl⟩:=Prod.mk.inj LE;rw[KS]at d3;have Gq:=Pf.out;rw[show({s with left:=m}:Bs).script =x0::r from KS]at Gq;obtain⟨Fw,FM,JP⟩:=Gq;obtain⟨b,o,rfl,Hg⟩:=JP (by simp);have JW:=(Hg.2 0 x0 rfl).1;rw[Nat.add_zero]at JW;have gh:is64 x0:=by have:=(Hg.2 0 x0 rfl).2;unfold in64 at this;unfold is64;omega
  obtain⟨n,hn⟩:=aF ((x0::r).length );rw[<-hn]at d3 Fw;have LM:0 < n:=by rw[hn];simp
  have FW:1<=n:=LM;have e0:((n:Int)==0)=false:=by simp;omega
  have e1n:(1:Int)<=(n:Int):=by omega
  obtain⟨xx,gi⟩:∃A:Option Addr,A=if cs=1 then some ⟨b,o,none⟩else some ⟨b,o+1,none⟩:=⟨_,rfl⟩
  have Mf:IsSl w1 C.B r xx (cs - 1):=by
   have F6:r.length+1=n:=by rw[hn];simp
   refine⟨by omega,by omega,λhp=>⟨b,o+1,by rw[gi,if_neg (by omega)],Hg.1,λi y hi=>?_⟩⟩;have:=Hg.2 (i+1) y (by simpa using hi);rw[show o+1+i=o+(i+1)from by omega];exact this
  have NS:=La _ _ _ H1.out (Fr.refl NoT w1).drew;obtain⟨b2,o2,J5,FE,Jh,K3⟩:=QO _ _ NS;have Gh:=K3.2 HO.out;have Me:=Jh _ _ x0 HO.out NS.st gh;have PF:Bk (w1.drew.setCell ⟨b2,o2,none⟩ (.int .i64 x0)) C.R 68 (runV C (some ⟨b,o,none⟩) cs {s with left:=m}):=(F4.fr0 (Fr.refl NoT w1).drew).far (p:=⟨b2,o2,none⟩) (Ne.symm Gh) _;have F0:=zhN C.n ps {s with left:=m} nm x0 r;have Jx:(setB C.n ps {s with left:=m} nm x0).vs.length =s.vs.length/\(setB C.n ps {s with left:=m} nm x0).ls =s.ls:=by
   unfold setB;cases posI ps nm.data.toList<;>simp
  have j7:runV C (some ⟨b,o,none⟩) cs {s with left:=m}=runV C (some ⟨b,o,none⟩) cs (setB C.n ps {s with left:=m} nm x0):=by
   unfold runV;rw[F0.2,Jx.1,Jx.2,zev]
  rw[j7]at PF;have Fu:C.B<=w1.heap.size:=H1.st.size HO.out;have Uw:¬b2 < C.B:=λHk=>by
   have hh:=(HO.out).br;rcases K3.1 with(e|e|e|e)|e
   ·omega
   ·have:=H1.st.sto.vl;have:=(HO.out).bl;omega
   ·obtain⟨i,hi⟩:=List.mem_iff_getElem?.1 e;have Nm:i < ({s with left:=m}:Bs).ls.length :=by rw[<-H1.st.sto.len];exact(List.getElem?_eq_some_iff.1 hi).1
    have:=(H1.st.sto.each i b2 _ hi (List.getElem?_eq_getElem Nm)).1;have:=(HO.out).bl;omega
   ·have:=(HO.out).bm;omega
   ·have:=H1.st.top b2 e;have:=(HO.out).rT;omega
  have Rb:IsSl (w1.drew.setCell ⟨b2,o2,none⟩ (.int .i64 x0)) C.B r xx (cs - 1):=Mf.keep λpp Vy=>by
   have hf:Fr (λy=>y=b2) w1 (w1.drew.setCell ⟨b2,o2,none⟩ (.int .i64 x0)):=Fr.own (aH.drew) _ _;exact hf.cell (aM Vy Fu) λe=>Uw (by have e:pp.block=b2:=e;rw[<-e];exact Vy)
  have RF:=Me.read HO.out (q:=r) PF Rb;rw[<-F0.1]at RF;have j8:r.length=n - 1:=by rw[hn];simp
  rw[j8]at RF;obtain⟨z0,_,z1,z2⟩:=FE _ _ NS.st;have y0:=PF.cell 0;have y1:=PF.frozen 0;have y2:=PF.lt;simp only[runV,List.getElem?_toArray,List.getElem?_cons_zero]at y0;have JD:Fr (C.MutO oc) W ((w1.drew.setCell ⟨b2,o2,none⟩ (.int .i64 x0)).setCell ⟨C.R,0,none⟩ (.slice xx (n - 1) (cs - 1))):=
   ((Hl.trans ((Fr.refl NoT w1).drew).any).setCell (p:=⟨b2,o2,none⟩) (.inl K3.1) _).setCell (p:=⟨C.R,0,none⟩) (.inl (.inl (.inl rfl))) _
  have HQ:=aA (show DoQ C oc none _ W (.returned (.tuple #[])) _ from⟨rfl,RF,JD⟩);have yk:=aA (HP _ _ _ b o n cs x0 NS (J5 _ aH) d3 JW);have He:Fr (C.MutO oc) w1.drew (w1.drew.setCell ⟨b2,o2,none⟩ (.int .i64 x0)):=aH.setCell (p:=⟨b2,o2,none⟩) (.inl K3.1) _;have j9:(w1.drew.setCell ⟨b2,o2,none⟩ (.int .i64 x0)).cell? ⟨b,o,none⟩=some (.int .i64 x0):=by
   have hf:Fr (λy=>y=b2) w1 (w1.drew.setCell ⟨b2,o2,none⟩ (.int .i64 x0)):=Fr.own (aH.drew) _ _;exact(hf.cell (p:=⟨b,o,none⟩) (aM Hg.1 Fu) λe=>Uw (by have e:b=b2:=e;rw[<-e];exact Hg.1)).trans JW
  have gj:=aA (HP _ _ _ b o n cs x0 (NS.next He Me (by rw[zev];exact aL _)) (J5 _ He) (by rw[y0,F0.2,hn];simp only[KS]) j9);have WW:=Ne.symm Gh;have x1:=F4.frozen 0;have x2:=F4.lt;have ym:=aA gi;clear RF JD Mf Rb PF Jh Me FE J5 NS K3 LE LD j7 F0 Jx JP Hg hn KS j8 Uw gi He j9;go_wp2_with fail;refine zad (InS C p q nb nm (.pointer (some ⟨b2,o2,none⟩)) b o n cs x0) (λi=>decide (i < 29)) (by kernel_rfl) yk.out (λaC=>?_);refine zaa 0 ?_;simp only[aB];refine zaa 1 ?_;simp only[aB];refine zay 2 (v:=?_) rfl (by kernel_rfl) (λ_ _ _ h=>h) aC (by rfl) ?_ ?_;rotate_left
  ·intro wz Ft;(try dsimp only[CtS,InS]at Ft);go_simp;try with_reducible rfl
  try simp only[aB]
  refine zay 3 (v:=?_) rfl (by kernel_rfl) (λ_ _ _ h=>h) aC (by rfl) ?_ ?_;rotate_left
  ·intro wz Ft;(try dsimp only[CtS,InS]at Ft);go_simp;try with_reducible rfl
  try simp only[aB]
  refine zay 4 (v:=?_) rfl (by kernel_rfl) (λ_ _ _ h=>h) aC (by rfl) ?_ ?_;rotate_left
  ·intro wz Ft;(try dsimp only[CtS,InS]at Ft);go_simp;try with_reducible rfl
  try simp only[aB]
  refine zaa 5 ?_;simp only[aB];refine zaa 6 ?_;simp only[aB];refine zay 7 (v:=?_) rfl (by kernel_rfl) (λ_ _ _ h=>h) aC (by rfl) ?_ ?_;rotate_left
  ·intro wz Ft;(try dsimp only[CtS,InS]at Ft);go_simp;try with_reducible rfl
  try simp only[aB]
  refine zay 8 (v:=?_) rfl (by kernel_rfl) (λ_ _ _ h=>h) aC (by rfl) ?_ ?_;rotate_left
  ·intro wz Ft;(try dsimp only[CtS,InS]at Ft);go_simp;try with_reducible rfl
  try simp only[aB]
  refine zaa 9 ?_;simp only[aB];refine zaa 10 ?_;simp only[aB];refine zay 11 (v:=?_) rfl (by kernel_rfl) (λ_ _ _ h=>h) aC (by rfl) ?_ ?_;rotate_left
  ·intro wz Ft;(try dsimp only[CtS,InS]at Ft);go_simp;try with_reducible rfl
  try simp only[aB]
  refine zaa 12 ?_;simp only[aB];refine zaa 13 ?_;simp only[aB];refine zay 14 (v:=?_) rfl (by kernel_rfl) (λ_ _ _ h=>h) aC (by rfl) ?_ ?_;rotate_left
  ·intro wz Ft;(try dsimp only[CtS,InS]at Ft);go_simp;try with_reducible rfl
  try simp only[aB]
  refine zaa 15 ?_;simp only[aB];refine zay 16 (v:=?_) rfl (by kernel_rfl) (λ_ _ _ h=>h) aC (by rfl) ?_ ?_;rotate_left
  ·intro wz Ft;(try dsimp only[CtS,InS]at Ft);go_simp;try with_reducible rfl
  try simp only[aB]
  refine zay 17 (v:=?_) rfl (by kernel_rfl) (λ_ _ _ h=>h) aC (by rfl) ?_ ?_;rotate_left
  ·intro wz Ft;(try dsimp only[CtS,InS]at Ft);go_simp;try with_reducible rfl
  try simp only[aB]
  refine zaa 18 ?_;simp only[aB];refine zaa 19 ?_;simp only[aB];refine zay 20 (v:=?_) rfl (by kernel_rfl) (λ_ _ _ h=>h) aC (by rfl) ?_ ?_;rotate_left
  ·intro wz Ft;(try dsimp only[CtS,InS]at Ft);go_simp;try with_reducible rfl
  try simp only[aB]
  refine zaa 21 ?_;simp only[aB];refine zaa 22 ?_;simp only[aB];refine zay 23 (v:=?_) rfl (by kernel_rfl) (λ_ _ _ h=>h) aC (by rfl) ?_ ?_;rotate_left
  ·intro wz Ft;(try dsimp only[CtS,InS]at Ft);go_simp;try with_reducible rfl
  try simp only[aB]
  refine zaa 24 ?_;simp only[aB];rw[<-ym.out];refine zaa 25 ?_;simp only[aB];refine zab 26 rfl (by kernel_rfl) (λKK hK=>?_);go_simp;refine hK _ _ (λ_ _=>gj.out) ?_;clear hK KK;try simp only[aB]
  refine zaa 27 ?_;simp only[aB];refine zaa 28 ?_;simp only[aB];refine zab 29 rfl (by kernel_rfl) (λKK hK=>?_);go_simp;refine hK _ _ (λh=>absurd h (by decide)) ?_;clear hK KK;try simp only[aB]
  refine zae (by kernel_rfl) ?_;go_wp2_with fail;go_end0;exact HQ.out
end
abbrev RowP:=Nat->Value->Nat->Nat->World->Prop
def RwS (C:BgC)(P:RowP):Prop:=∀i v lo hi w w',Later C lo hi w w'->P i v lo hi w->P i v lo hi w'
structure MkL (C:BgC)(W0 w:World)(g:Nat)(ty e:TypeId)(v:Value)(vs:List Value)(P:RowP):Prop where
 fr:Fr NoT W0 w
 bk:Bk w g ty #[v]
 gl:W0.heap.size<=g
 row:w.ownsRow (g+1) e 1 v vs.length vs
 vals:∀(i:Nat) u,vs[i]?=some u->∃lo hi,P i u lo hi w/\W0.heap.size<=lo/\hi<=w.heap.size/\(g < lo\/hi<=g)/\∀b,v.ownBlock=some b->b < lo\/hi<=b
theorem zhO {w w':World}{B n size:Nat}{t:TypeId}{v:Value}{cs:List Value}(h:w.ownsRow B t size v n cs)(hf:Fr NoT w w'):w'.ownsRow B t size v n cs:=by
 refine⟨h.1,h.2.imp id ?_⟩;rintro⟨g,cap,cur,e1,e2,e3,e4⟩;exact⟨g,cap,cur,e1,e2,(hf.block g (Bk.lt (t:=t) (cs:=cur) e3) id).trans e3,e4⟩
section
variable {C:BgC} {W0 w w' w5 w7:World} {g:Nat} {ty e:TypeId} {v v' u:Value} {vs:List Value} {P:RowP}
theorem MkL.fr0 (h:MkL C W0 w g ty e v vs P)(hP:RwS C P)(hT:C.T<=W0.heap.size)(hf:Fr NoT w w'):MkL C W0 w' g ty e v vs P:=
 ⟨h.fr.trans hf,h.bk.fr0 hf,h.gl,zhO h.row hf,λi u hu=>by
  obtain⟨lo,hi,h1,h2,h3,h4⟩:=h.vals i u hu;exact⟨lo,hi,hP _ _ _ _ _ _ (Later.of0 hf h3 (aK hT h.fr.size)) h1,h2,aK h3 hf.size,h4⟩⟩
theorem MkL.step (h:MkL C W0 w g ty e v vs P)(hP:RwS C P)(hT:C.T<=W0.heap.size)(Hm:Fr NoT w w5)(hu:P vs.length u w.heap.size w5.heap.size w5)(Hi:w7.ownsRow (g+1) e 1 v' (vs.length+1) (vs++ [u]))(hg:(w5.alloc (.cells #[u] e)).grownBy w7 v.ownBlock)(hb:v'.ownBlock=v.ownBlock\/v'.ownBlock=some (w5.heap.size+1)):
  MkL C W0 (w7.setCell ⟨g,0,none⟩ v') g ty e v' (vs++ [u]) P:=by
 have Yl:C.T<=w.heap.size:=aK hT h.fr.size;have PG:=h.bk.lt;have GA:Fr NoT w (w5.alloc (.cells #[u] e)):=Hm.alloc _;have Mz:=GA.size;have N1:=hg.size;simp only[World.size_alloc]at Mz N1;have h5:=Hm.size;have ND:∀b,v.ownBlock=some b->g+1<=b/\b < w.heap.size:=λb hb=>h.row.lt b hb;have gk:Fr NoT W0 w7:=by
  have h6:=h.fr.trans GA;refine⟨hg.os.trans h6.os,hg.tape.trans h6.tape,hg.output.trans h6.output,aK h6.size hg.size,λi hi hn=>(hg.block i (aM hi h6.size) λe=>?_).trans (h6.block i hi hn)⟩;have:=ND i e.symm;have:=h.gl;omega
 -- blocks that do not turn
 have gm:∀i,i < w.heap.size->i≠g->v.ownBlock≠some i->(w7.setCell ⟨g,0,none⟩ v').heap[i]?=w.heap[i]?:=λi hi h1 h2=>
  (Below.heap_setCell w7 _ _ i λe=>h1 (by have e:i=g:=e;exact e)).trans ((hg.block i (by simp;omega) λe=>h2 e.symm).trans (GA.block i hi id))
 have W3:∀i,i < w5.heap.size->i≠g->v.ownBlock≠some i->(w7.setCell ⟨g,0,none⟩ v').heap[i]?=w5.heap[i]?:=λi hi h1 h2=>
  (Below.heap_setCell w7 _ _ i λe=>h1 (by have e:i=g:=e;exact e)).trans ((hg.block i (by simp;omega) λe=>h2 e.symm).trans (Below.heap_alloc w5 _ i hi))
 have Po:Bk w7 g ty #[v]:=(hg.block g (by simp;omega) λe=>by have:=ND g e.symm;omega).trans (h.bk.fr0 GA);have Ux:∀b,v'.ownBlock=some b->v.ownBlock=some b\/b=w5.heap.size+1:=λb e=>by
  rcases hb with hb|hb
  ·exact .inl (by rw[<-hb];exact e)
  ·rw[hb]at e;exact .inr (Option.some.inj e).symm
 have yn:v'.ownBlock≠some g:=λe=>by
  rcases Ux g e with e|e
  ·have:=ND g e;omega
  ·omega
 refine⟨gk.high h.gl 0 _,by simpa using Po.set_ 0 v',h.gl,?_,λi y hy=>?_⟩
 ·have hl:(vs++ [u]).length =vs.length+1:=by simp
  rw[hl];refine⟨Hi.1,Hi.2.imp id ?_⟩;rintro⟨g',cap,cur,e1,e2,e3,e4⟩;exact⟨g',cap,cur,e1,e2,(Below.heap_setCell w7 _ _ g' λe=>by have e:g'=g:=e;omega).trans e3,e4⟩
 ·by_cases hi:i < vs.length
  ·rw[List.getElem?_append_left hi]at hy;obtain⟨lo,L5,h1,h2,h3,h4,ka⟩:=h.vals i y hy;refine⟨lo,L5,hP _ _ _ _ _ _ ⟨⟨by simp;omega,by simp;omega⟩,λj hj hm=>?_⟩ h1,h2,by simp;omega,h4,λb hb=>?_⟩
   ·have GY:=h.gl;refine gm j (by omega) (by omega) λe=>?_;have:=ka j e;have:=ND j e;omega
   ·rcases Ux b hb with e|e
    ·exact ka b e
    ·right;omega
  ·rw[List.getElem?_append_right (by omega)]at hy;have KE:i - vs.length=0:=by
    have:=(List.getElem?_eq_some_iff.1 hy).1;simp at this;omega
   rw[KE]at hy;simp at hy;subst hy;obtain rfl:i=vs.length:=by omega
   refine⟨w.heap.size,w5.heap.size,hP _ _ _ _ _ _ ⟨⟨by simp;omega,by simp;omega⟩,λj hj hm=>?_⟩ hu,h.fr.size,by simp;omega,.inl PG,λb hb=>?_⟩
   ·have GY:=h.gl;refine W3 j (by omega) (by omega) λe=>?_;have:=ND j e;omega
   ·rcases Ux b hb with e|e
    ·exact .inl (ND b e).2
    ·right;omega
theorem MkL.rowF (h:MkL C W0 w g ty e v vs P):∃A c,v= .slice A vs.length c/\RowF W0.heap.size w.heap.size w A c vs:=by
 rcases h.row.2 with⟨e,h0⟩|⟨b,cap,cur,e,h1,h2,h3,h4,_⟩
 ·rw[h0];exact⟨none,0,e,by rw[h0];exact aL _,by omega,λhp=>by omega⟩
 ·refine⟨some ⟨b,0,none⟩,cap,e,h3,by unfold maxLen at h4;omega,λhp=>⟨b,rfl,?_,?_,λi u hu=>?_⟩⟩
  ·have:=h.gl;omega
  ·exact Bk.lt (t:=_) (cs:=cur) h2
  ·have h9:=h.row.cells (g:=b) (by rw[e];rfl) i u hu;have ea:(⟨b,0,none⟩:Addr).add i=⟨b,i,none⟩:=by unfold Addr.add;split<;>simp_all
   rw[ea]at h9;exact h9
theorem MkL.zero (hw:Fr NoT W0 w)(hg:W0.heap.size<=g)(hb:Bk w g ty #[.slice none 0 0]):MkL C W0 w g ty e (.slice none 0 0) [] P:=
 ⟨hw,hb,hg,World.ownsRow_nil _ _ _ _,λi u hu=>by simp at hu⟩
end
