/- big: values: the closures of expressions. -/
import Derived.Test.YtfomomaomggpbaaGreatDoorJgBgMem
set_option linter.all false
set_option maxHeartbeats 3200000
set_option maxRecDepth 100000
namespace Go.Proofs.YtfomomaomggpbaaGreatDoor
open Go.RowKit Go.Shelf
def valH (n:Bn)(ps:List (List UInt8))(k:Int)(nm:ByteArray)(m at_:Int)(args:Exs)(s:Bs):Ho ⊕ Int:=
 match valL n ps s args with
 | .inl h=> .inl h
 | .inr l=>zd3 n ps s k nm m at_ l
def InSc (n:Bn)(ps:List (List UInt8))(nm:ByteArray):Prop:=(∃k,posI ps nm.data.toList=some k)\/∃i,posI n.vars nm.data.toList=some i
theorem zcA:∀ {l:List (List UInt8)} {t:List UInt8} {k:Nat},posI l t=some k->k < l.length
 | [],_,_,h=>by simp[posI]at h
 |x::r,t,k,h=>by
  unfold posI at h;by_cases e:x=t
  ·rw[if_pos e]at h;obtain rfl:=Option.some.inj h;simp
  ·rw[if_neg e]at h;cases e2:posI r t with
   |none=>rw[e2]at h;simp at h
   |some j=>
    rw[e2]at h;simp at h;have:=zcA e2;simp only[List.length_cons];omega
theorem zml (w:World):(zeroValue 78).run Tryz.prog w= .ok (.pointer none) w:=by kernel_rfl
theorem zkB (w:World):(zeroValue 28).run Tryz.prog w= .ok (.slice none 0 0) w:=by kernel_rfl
theorem zeo {C:BgC}{lo hi:Nat}{w W:World}{ps:List (List UInt8)}{oc:List Nat}{nb:Nat}{s:Bs}(h:RunAt C lo hi w W ps oc nb s){nm:ByteArray}(hs:nm.size<=9223372036854775807)(hi:InSc C.n ps nm):
  ∃b o,(∀W',Fr (C.MutO oc) W W'->(Instr.lookup 75 (.map (some nb)) (.string nm) false).run Tryz.prog W'= .ok (.pointer (some ⟨b,o,none⟩)) W')/\(∀t W',BgSt C oc t W'->W'.cell? ⟨b,o,none⟩=some (.int .i64 (getV C.n ps t nm))/\is64 (getV C.n ps t nm)/\W'.frozen? ⟨b,o,none⟩=false/\b < W'.heap.size)/\
   (∀t W' x,C.Ok->BgSt C oc t W'->is64 x->BgSt C oc (setB C.n ps t nm x) (W'.setCell ⟨b,o,none⟩ (.int .i64 x)))/\C.MutO oc b/\(C.Ok->b≠C.R):=by
 obtain⟨N,f,hm,hN,hv,hp⟩:=h.sc.map;have hl:∀a,f nm.data.toList=some a->∀W',Fr (C.MutO oc) W W'->(Instr.lookup 75 (.map (some nb)) (.string nm) false).run Tryz.prog W'= .ok a W':=by
  intro a ha W' hf;have:=(hm.fr hf h.sc.out).get (mt:=75) Tryz.underlying75 hs (zml W');rw[ha]at this;exact this
 cases hk:posI ps nm.data.toList with
 |some k=>
  obtain⟨b,hb,hf⟩:=hp _ _ hk;have Uy:=(List.getElem?_eq_some_iff.1 hb).1;refine⟨b,0,hl _ hf,λt W' ht=>?_,λt W' x ho ht hx=>?_,.inr (List.mem_of_getElem? hb),λho e=>by have h1:=h.st.top b (List.mem_of_getElem? hb);have h2:=ho.rT;omega⟩
  ·have MQ:k < t.own.length:=by rw[ht.len];exact Uy
   have e:t.own[k]?=some (getV C.n ps t nm):=by
    unfold getV;simp only[hk,List.getD_eq_getElem?_getD,List.getElem?_eq_getElem MQ,Option.getD_some]
   have Gm:=ht.own k b _ hb e;exact⟨Gm.cell 0,ht.oi _ (List.mem_of_getElem? e),Gm.frozen 0,Gm.lt⟩
  ·unfold setB;simp only[hk];exact ht.bgSetO ho hb hx
 |none=>
  obtain⟨i,hi⟩:∃i,posI C.n.vars nm.data.toList=some i:=by
   rcases hi with⟨k,PC⟩|hi
   ·rw[hk]at PC;cases PC
   ·exact hi
  refine⟨C.V,i,hl _ (hv _ _ hi),λt W' ht=>?_,λt W' x ho ht hx=>?_,.inl (.inr (.inl rfl)),λho e=>ho.rv e.symm⟩
  ·have MQ:i < t.vs.length:=by rw[ht.nv];exact zcA hi
   have e:t.vs[i]?=some (getV C.n ps t nm):=by
    unfold getV;simp only[hk,hi,Option.getD_some,List.getD_eq_getElem?_getD,List.getElem?_eq_getElem MQ]
   refine⟨?_,ht.sto.i64.1 _ (List.mem_of_getElem? e),ht.sto.v.frozen i,ht.sto.v.lt⟩;rw[ht.sto.v.cell i];simp[intL,e]
  ·unfold setB;simp only[hk,hi,Option.getD_some];exact ht.setV ho i hx
section
variable {C:BgC} {ps:List (List UInt8)} {w:World} {lo hi q:Nat} {k:Int} {nm:ByteArray} {m at_:Int} {A:Option Addr} {l c:Nat}
theorem val_1 (ho:C.Ok)(hq:Bx lo hi w q 175 #[.int .u8 k,.string nm,.int .i64 m,.slice A l c,.int .i64 at_])(hT:C.T<=lo)(hm:is64 m):ValP C ps (.func (.func 227) #[] #[.pointer (some ⟨q,0,none⟩)]) (λ_=> .inr m) lo hi w:=by
 refine⟨_,_,rfl,enters_of Tryz.func227 (by kernel_rfl) rfl,λW oc nb s h=>?_⟩;have c2:=(h.bx ho hT hq).cell 2;simp only[getsL]at c2;have HQ:=hdq (show ValQ (.inr m) W (.returned (.int .i64 m)) W from⟨⟨rfl,hm⟩,Fr.refl _ _⟩);clear h hq hT hm ho;show Calls Tryz.prog 227 #[.map (some nb),.pointer (some ⟨q,0,none⟩)] W _
 go_enter Tryz.func227,Tryz.ntmps227;go_wp2_with fail;go_ret;exact HQ.out
theorem val_2 (ho:C.Ok)(hq:Bx lo hi w q 175 #[.int .u8 k,.string nm,.int .i64 m,.slice A l c,.int .i64 at_])(hT:C.T<=lo)(hs:nm.size<=9223372036854775807)(Mq:InSc C.n ps nm):ValP C ps (.func (.func 228) #[] #[.pointer (some ⟨q,0,none⟩)]) (λs=> .inr (getV C.n ps s nm)) lo hi w:=by
 refine⟨_,_,rfl,enters_of Tryz.func228 (by kernel_rfl) rfl,λW oc nb s h=>?_⟩;have c1:=(h.bx ho hT hq).cell 1;simp only[getsL]at c1;obtain⟨b,o,hl,hc,_⟩:=zeo h hs Mq;have Np:=hl W (Fr.refl _ _);obtain⟨cb,hx,_,_⟩:=hc s W h.st;obtain⟨x,ex⟩:=nmq (getV C.n ps s nm);show Calls Tryz.prog 228 #[.map (some nb),.pointer (some ⟨q,0,none⟩)] W (ValQ (.inr (getV C.n ps s nm)) W)
 rw[<-ex]at cb hx ⊢;have HQ:=hdq (show ValQ (.inr x) W (.returned (.int .i64 x)) W from⟨⟨rfl,hx⟩,Fr.refl _ _⟩);clear h hq hT hs ho Mq hl hc ex hx;show Calls Tryz.prog 228 #[.map (some nb),.pointer (some ⟨q,0,none⟩)] W _
 go_enter Tryz.func228,Tryz.ntmps228;go_wp2_with fail;go_ret;exact HQ.out
theorem val_4:ValP C ps (.func (.func 230) #[] #[]) (λ_=> .inr 0) lo hi w:=by
 refine⟨_,_,rfl,enters_of Tryz.func230 (by kernel_rfl) rfl,λW oc nb s h=>?_⟩;have HQ:=hdq (show ValQ (.inr 0) W (.returned (.int .i64 0)) W from⟨⟨rfl,by unfold is64;omega⟩,Fr.refl _ _⟩);clear h;show Calls Tryz.prog 230 #[.map (some nb)] W _
 go_enter Tryz.func230,Tryz.ntmps230;go_wp2_with fail;go_ret;exact HQ.out
def OpS (q x1 x2:Nat)(k at_:Int)(v1 v2:Value)(W:World):Prop:=W.cell? ⟨q,0,none⟩=some (.int .u8 k)/\W.cell? ⟨q,4,none⟩=some (.int .i64 at_)/\W.cell? ⟨x1,0,none⟩=some v1/\W.cell? ⟨x2,0,none⟩=some v2
def opV (k at_:Int)(X0 X1:Bs->Ho ⊕ Int)(s:Bs):Ho ⊕ Int:=
 match X0 s with
 | .inl h=> .inl h
 | .inr a=>match X1 s with
  | .inl h=> .inl h
  | .inr b=>if opW k a b=0 then .inr (opR k a b)else .inl ⟨5,opW k a b,at_⟩
theorem val_5 {x1 x2:Nat}{v1 v2:Value}{X0 X1:Bs->Ho ⊕ Int}(ho:C.Ok)(hT:C.T<=lo)(hq:Bx lo hi w q 175 #[.int .u8 k,.string nm,.int .i64 m,.slice A l c,.int .i64 at_])(h1:Bx lo hi w x1 278 #[v1])(h2:Bx lo hi w x2 277 #[v2])(hk:4<=k/\k<=11)
  (FN:ValP C ps v1 X0 lo hi w) (Ka:ValP C ps v2 X1 lo hi w):ValP C ps (.func (.func 231) #[] #[.pointer (some ⟨x1,0,none⟩),.pointer (some ⟨q,0,none⟩),.pointer (some ⟨x2,0,none⟩)]) (opV k at_ X0 X1) lo hi w:=by
 obtain⟨g1,ye,rfl,F8,Hk⟩:=FN;obtain⟨g2,yg,rfl,KZ,Hq⟩:=Ka;refine⟨_,_,rfl,enters_of Tryz.func231 (by kernel_rfl) rfl,λW oc nb s h=>?_⟩;have hs:∀W',Fr NoT W W'->OpS q x1 x2 k at_ (.func (.func g1) #[] ye) (.func (.func g2) #[] yg) W':=λW' hf=>
  have h':=h.fr0 ho hf
  ⟨(h'.bx ho hT hq).cell 0,(h'.bx ho hT hq).cell 4,(h'.bx ho hT h1).cell 0,(h'.bx ho hT h2).cell 0⟩
 have Uq:=hs W (Fr.refl _ _);have HS:=hdq hs;have Lk:=hdq (λ(W':World)(hf:Fr NoT W W')=>Hq W' oc nb s (h.fr0 ho hf));have HA:=hdq (λa b (W':World) (ha:is64 a) (hb:is64 b)=>zjU k a b W' hk.1 hk.2 ha hb);have FW:=hdq (Hk W oc nb s h);obtain⟨c0,_,c1,_⟩:=Uq;obtain⟨r,hr⟩:=nmq (opV k at_ X0 X1 s);unfold Enters at F8 KZ;clear Hk Hq h hs hq h1 h2 hk ho hT;show Calls Tryz.prog 231 #[.map (some nb),.pointer (some ⟨x1,0,none⟩),.pointer (some ⟨q,0,none⟩),.pointer (some ⟨x2,0,none⟩)] W (ValQ (opV k at_ X0 X1 s) W)
 rw[<-hr];have HV:=hdq hr;clear hr;go_enter Tryz.func231,Tryz.ntmps231;go_wp2_with fail;refine FW.mono ?_;rintro e w1 ⟨he,Hg⟩;rcases JD:X0 s with V1|a
 ·rw[JD]at he;obtain rfl:=he;exact⟨rfl,by rw[HV.out];unfold opV;rw[JD];rfl,Hg⟩
 rw[JD]at he;obtain⟨rfl,ha⟩:=he;have Hs:=hdq Hg;have V2:=hdq ha;clear Hg ha c0 c1;go_wp2_with fail;refine zad (OpS q x1 x2 k at_ (.func (.func g1) #[] ye) (.func (.func g2) #[] yg)) (λ_=>true) (by kernel_rfl) (HS _ (Hs.drew)) (λhHeld=>?_);refine zaa 0 ?_;simp only[putsL];refine zaa 2 ?_;simp only[putsL];refine zaa 4 ?_;simp only[putsL];refine zai 1 hHeld ?_;simp only[putsL];refine zai 3 hHeld ?_;simp only[putsL];refine zab 5 rfl (by kernel_rfl) (λKK hK=>?_);go_simp;refine(Lk _ Hs.drew).mono ?_;rintro e w2 ⟨he,He⟩;rcases G2:X1 s with Y7|b
 ·rw[G2]at he;obtain rfl:=he;exact⟨rfl,by rw[HV.out];unfold opV;rw[JD,G2];rfl,Hs.drew.trans He⟩
 rw[G2]at he;obtain⟨rfl,hb⟩:=he;have Hv:=hdq (Hs.drew.trans He);have Y8:=hdq hb;clear He hb;try dsimp only
 refine hK _ _ (λ_ _=>HS _ Hv.out) ?_;clear hK KK;try simp only[putsL]
 refine zab 6 rfl (by kernel_rfl) (λKK hK=>?_);go_simp;go_at_call 157;refine(HA _ _ _ V2.out Y8.out).mono ?_;rintro _ w3 ⟨rfl,Ga⟩;have Ge:=hdq (Hv.trans (Fr.below Ga));clear Ga;try dsimp only
 refine hK _ _ (λ_ _=>HS _ Ge.out) ?_;clear hK KK;try simp only[putsL]
 refine zaa 7 ?_;simp only[putsL];refine zaa 8 ?_;simp only[putsL];refine zaa 11 ?_;simp only[putsL];refine zaa 9 ?_;simp only[putsL];refine zaa 12 ?_;simp only[putsL];refine zaa 10 ?_;simp only[putsL];refine zaa 13 ?_;simp only[putsL];refine zaf (by kernel_rfl) ?_;by_cases hv:opW k a b=0
 ·have e1:(opW k a b != 0)=false:=by simpa using hv
  have HE:=hdq (show zhM r (.returned (.int .i64 (opR k a b))) by rw[HV.out];unfold opV;rw[JD,G2];simp only[if_pos hv];exact⟨rfl,zlL _ _ _ V2.out⟩);clear hv;go_wp2_with fail;go_ret;exact⟨HE.out,Ge.out⟩
 ·have e1:(opW k a b != 0)=true:=by simpa using hv
  have HE:=hdq (show zhM r (endE ⟨5,opW k a b,at_⟩) by rw[HV.out];unfold opV;rw[JD,G2];simp only[if_neg hv];rfl);have Md:=HS _ Ge.out;have c4:=Md.2.1;clear hv;go_wp2_with fail;exact⟨rfl,HE.out,Ge.out⟩
end
section
variable {C:BgC} {ps:List (List UInt8)} {w:World} {lo hi q:Nat} {k:Int} {nm:ByteArray} {m at_:Int} {A:Option Addr} {l c:Nat}
def LdS (C:BgC)(p q x1:Nat)(nm:ByteArray)(at_:Int)(v1 vs:Value)(W:World):Prop:=W.cell? ⟨p,0,none⟩=some (.pointer (some ⟨C.P,0,none⟩))/\W.cell? ⟨C.P,1,none⟩=some (.map (some C.MA))/\W.cell? ⟨q,1,none⟩=some (.string nm)/\W.cell? ⟨q,4,none⟩=some (.int .i64 at_)/\W.cell? ⟨x1,0,none⟩=some v1/\
 (Instr.lookup 70 (.map (some C.MA)) (.string nm) false).run Tryz.prog W= .ok vs W
def ldV (n:Bn)(nm:ByteArray)(at_:Int)(X0:Bs->Ho ⊕ Int)(s:Bs):Ho ⊕ Int:=
 match X0 s with
 | .inl h=> .inl h
 | .inr a=>if 0<=a/\a < (s.ls.getD (arrI n nm) []).length then .inr ((s.ls.getD (arrI n nm) []).getD a.toNat 0)else .inl ⟨5,5,at_⟩
theorem zfB (Gy:PgAt C w){nm:ByteArray}(hs:nm.size<=9223372036854775807){i:Nat}(Ma:posI C.n.arrs nm.data.toList=some i){s:Bs}{oc:List Nat}{W:World}(Gu:BgSt C oc s W):
  ∃b l,C.bs[i]?=some b/\s.ls[i]?=some l/\s.ls.getD (arrI C.n nm) []=l/\l.length<=1000/\Bk W b 3 (intL l).toArray /\(∀x∈l,is64 x)/\(Instr.lookup 70 (.map (some C.MA)) (.string nm) false).run Tryz.prog w= .ok (.slice (some ⟨b,0,none⟩) l.length l.length) w:=by
 obtain⟨N,f,hm,hf⟩:=Gy.ma;obtain⟨b,hb,hl⟩:=hf _ _ Ma;have M0:i < s.ls.length:=by rw[Gu.na];exact zcA Ma
 obtain⟨l,e⟩:∃l,s.ls[i]?=some l:=⟨_,List.getElem?_eq_getElem M0⟩;have hv:=hl s oc W l Gu e;have:=hm.get (mt:=70) Tryz.underlying70 hs (zkB w);rw[hv]at this;refine⟨b,l,hb,e,?_,Gu.sto.few.2.2 l (List.mem_of_getElem? e),(Gu.sto.each i b l hb e).2,λx hx=>Gu.sto.i64.2 l (List.mem_of_getElem? e) x hx,this⟩;unfold arrI;rw[Ma,Option.getD_some,List.getD_eq_getElem?_getD,e,Option.getD_some]
theorem val_3 {p x1:Nat}{v1:Value}{X0:Bs->Ho ⊕ Int}{i:Nat}(ho:C.Ok)(hT:C.T<=lo)(Gy:PgAt C w)(hp:Bx lo hi w p 69 #[.pointer (some ⟨C.P,0,none⟩)])(hq:Bx lo hi w q 175 #[.int .u8 k,.string nm,.int .i64 m,.slice A l c,.int .i64 at_])
  (h1:Bx lo hi w x1 278 #[v1]) (hs:nm.size<=9223372036854775807) (Ma:posI C.n.arrs nm.data.toList=some i) (FN:ValP C ps v1 X0 lo hi w):
  ValP C ps (.func (.func 229) #[] #[.pointer (some ⟨p,0,none⟩),.pointer (some ⟨q,0,none⟩),.pointer (some ⟨x1,0,none⟩)]) (ldV C.n nm at_ X0) lo hi w:=by
 obtain⟨g1,ye,rfl,F8,Hk⟩:=FN;refine⟨_,_,rfl,enters_of Tryz.func229 (by kernel_rfl) rfl,λW oc nb s h=>?_⟩;obtain⟨b,l,hb,hl,KL,Fo,Gm,KB,_⟩:=zfB (Gy.later ho h.lat) hs Ma h.st;have hS:∀W',Fr NoT W W'->LdS C p q x1 nm at_ (.func (.func g1) #[] ye) (.slice (some ⟨b,0,none⟩) l.length l.length) W':=λW' hf=>by
  have h':=h.fr0 ho hf;have Qw:=h'.lat;obtain⟨b',l',FJ,NJ,_,_,_,_,JK⟩:=zfB (Gy.later ho Qw) hs Ma (h.st.fr0 ho hf);rw[hb]at FJ;rw[hl]at NJ;obtain rfl:=Option.some.inj FJ;obtain rfl:=Option.some.inj NJ;exact⟨(h'.bx ho hT hp).cell 0,(Gy.later ho Qw).p.cell 1,(h'.bx ho hT hq).cell 1,(h'.bx ho hT hq).cell 4,(h'.bx ho hT h1).cell 0,JK⟩
 have HS:=hdq hS;have FW:=hdq (λ(W':World)(hf:Fr NoT W W')=>Hk W' oc nb s (h.fr0 ho hf));have HB:=hdq (λ(W':World)(hf:Fr NoT W W')=>Gm.fr0 hf);obtain⟨r,hr⟩:=nmq (ldV C.n nm at_ X0 s);have HE:=hdq (λ(W':World)=>zen b l.length);have Sr:=hdq KB;obtain⟨z,hz⟩:=nmq l.length;have HZ:=hdq hz;have UM:=hdq KL;unfold Enters at F8;rw[<-hz]at HS HE Fo;show Calls Tryz.prog 229 #[.map (some nb),.pointer (some ⟨p,0,none⟩),.pointer (some ⟨q,0,none⟩),.pointer (some ⟨x1,0,none⟩)] W (ValQ (ldV C.n nm at_ X0 s) W)
 rw[<-hr];have HV:=hdq hr;clear hr hS Hk h hq hp Gy h1 ho hT hb hl KL Gm KB hz hs Ma;go_enter Tryz.func229,Tryz.ntmps229;go_wp2_with fail;refine zad (LdS C p q x1 nm at_ (.func (.func g1) #[] ye) (.slice (some ⟨b,0,none⟩) z z)) (λ_=>true) (by kernel_rfl) (HS _ (Fr.refl NoT W).drew) (λhHeld=>?_);refine zaa 4 ?_;simp only[putsL];refine zaa 8 ?_;simp only[putsL];refine zaa 10 ?_;simp only[putsL];refine zai 0 hHeld ?_;simp only[putsL];refine zai 5 hHeld ?_;simp only[putsL];refine zai 7 hHeld ?_;simp only[putsL];refine zai 11 hHeld ?_;simp only[putsL];refine zaa 1 ?_;simp only[putsL];refine zaa 2 ?_;simp only[putsL];refine zai 3 hHeld ?_;simp only[putsL];refine zai 6 hHeld ?_;simp only[putsL];refine zab 9 rfl (by kernel_rfl) (λKK hK=>?_);go_simp;refine(FW _ (Fr.refl NoT W).drew).mono ?_;rintro e w2 ⟨he,He⟩;rcases JD:X0 s with V1|a
 ·rw[JD]at he;obtain rfl:=he;exact⟨rfl,by rw[HV.out];unfold ldV;rw[JD];rfl,(Fr.refl NoT W).drew.trans He⟩
 rw[JD]at he;obtain⟨rfl,ha⟩:=he;have Hv:=hdq ((Fr.refl NoT W).drew.trans He);clear He;try dsimp only
 refine hK _ _ (λ_ _=>HS _ Hv.out) ?_;clear hK KK;try simp only[putsL]
 refine zab 12 rfl (by kernel_rfl) (λKK hK=>?_);go_simp;go_at_call 177;refine(HE w2 a at_ Fo _).mono ?_;rintro e w3 ⟨rfl,J9⟩;rcases J9 with⟨h0,h1,rfl⟩|⟨h0,rfl⟩;case inr=>exact⟨rfl,by rw[HV.out];unfold ldV;rw[JD,UM.out];simp only;rw[<-HZ.out,if_neg h0];rfl,Hv.out⟩
 obtain⟨j,rfl⟩:∃j:Nat,a=j:=⟨a.toNat,by omega⟩;have TK:j < l.length:=by rw[<-HZ.out];omega
 obtain⟨x,hx⟩:∃x,l[j]?=some x:=⟨_,List.getElem?_eq_getElem TK⟩;have FI:=(HB _ Hv.out).cell j;simp only[List.getElem?_toArray,intL,List.getElem?_map,hx,Option.map_some]at FI;have HR:=hdq (show zhM r (.returned (.int .i64 x)) by
  rw[HV.out];unfold ldV;rw[JD,UM.out];simp only;rw[<-HZ.out,if_pos ⟨h0,h1⟩,Int.toNat_natCast,List.getD_eq_getElem?_getD,hx];exact⟨rfl,Sr x (List.mem_of_getElem? hx)⟩)
 clear hx TK h0 h1 ha;try dsimp only
 rw[Int.toNat_natCast];refine hK _ _ (λ_ h=>h) ?_;clear hK KK;try simp only[putsL]
 refine zaa 13 ?_;simp only[putsL];refine zab 14 rfl (by kernel_rfl) (λKK hK=>?_);go_simp;refine hK _ _ (λ_ h=>h) ?_;clear hK KK;try simp only[putsL]
 refine zaa 15 ?_;simp only[putsL];refine zaf (by kernel_rfl) ?_;go_wp2_with fail;go_ret;exact⟨HR.out,Hv.out⟩
end
def hdX (n:Bn)(ps:List (List UInt8))(k:Int)(nm:ByteArray)(args:Exs):Prop:=(1<=k/\k<=11)/\nm.size<=9223372036854775807/\(k=2->InSc n ps nm)/\(k=3->∃i,posI n.arrs nm.data.toList=some i)/\(k<=2->args.len=0)/\(k=3\/k=4->args.len=1)/\(5<=k->args.len=2)
def wfX (n:Bn)(ps:List (List UInt8)):Exs->Prop
 | .nil =>True
 | .cons k nm _ args _ r=>hdX n ps k nm args/\wfX n ps args/\wfX n ps r
def MkV (C:BgC)(ps:List (List UInt8))(X:Bs->Ho ⊕ Int)(W:World)(e:Ending)(w':World):Prop:=∃val,e= .returned val/\Fr NoT W w'/\ValP C ps val X W.heap.size w'.heap.size w'
def ExpC (C:BgC)(ps:List (List UInt8))(k:Int)(nm:ByteArray)(m:Int)(args:Exs)(at_:Int):Prop:=
 ∀(W:World)(S:Nat->Prop)(Z:Prop)(A:Option Addr)(c:Nat),C.T<=W.heap.size->PgAt C W->(∀x,S x->x < C.B)->in64 m->SlR (λb o=>ExR W S Z args b o) args.len 64 A c->
  Calls Tryz.prog 175 #[.pointer (some ⟨C.P,0,none⟩),.agg #[.int .u8 k,.string nm,.int .i64 m,.slice A args.len c,.int .i64 at_]] W (MkV C ps (valH C.n ps k nm m at_ args) W)
def boxE (C:BgC)(W:World)(k:Int)(nm:ByteArray)(m:Int)(A:Option Addr)(l c:Nat)(at_:Int):World:=(W.alloc (.cells #[.pointer (some ⟨C.P,0,none⟩)] 69)).alloc (.cells #[.int .u8 k,.string nm,.int .i64 m,.slice A l c,.int .i64 at_] 175)
structure BxE (C:BgC)(W w:World)(k:Int)(nm:ByteArray)(m:Int)(A:Option Addr)(l c:Nat)(at_:Int):Prop where
 fr:Fr NoT W w
 p:Bk w W.heap.size 69 #[.pointer (some ⟨C.P,0,none⟩)]
 q:Bk w (W.heap.size+1) 175 #[.int .u8 k,.string nm,.int .i64 m,.slice A l c,.int .i64 at_]
section
variable {C:BgC} {ps:List (List UInt8)} {W w w':World} {k:Int} {nm:ByteArray} {m:Int} {A:Option Addr} {l c:Nat} {at_:Int}
theorem zkC:BxE C W (boxE C W k nm m A l c at_) k nm m A l c at_:=⟨((Fr.refl _ _).alloc _).alloc _,(Bk.new _ _ _).alloc _,Bk.new_at _ _ _ (by simp)⟩
theorem BxE.next (h:BxE C W w k nm m A l c at_)(hf:Fr NoT w w'):BxE C W w' k nm m A l c at_:=⟨h.fr.trans hf,h.p.fr0 hf,h.q.fr0 hf⟩
theorem BxE.bp (h:BxE C W w k nm m A l c at_):Bx W.heap.size w.heap.size w W.heap.size 69 #[.pointer (some ⟨C.P,0,none⟩)]:=⟨h.p,lrq _,h.p.lt⟩
theorem BxE.bq (h:BxE C W w k nm m A l c at_):Bx W.heap.size w.heap.size w (W.heap.size+1) 175 #[.int .u8 k,.string nm,.int .i64 m,.slice A l c,.int .i64 at_]:=⟨h.q,Nat.le_succ _,h.q.lt⟩
theorem ValP.eq {X Y:Bs->Ho ⊕ Int}{val:Value}{lo hi:Nat}(h:ValP C ps val X lo hi w)(e:X=Y):ValP C ps val Y lo hi w:=e▸h
theorem is_of {n:Int}(h:in64 n):is64 n:=by unfold in64 at h;unfold is64;omega
theorem Exs.len0:∀ {xs:Exs},xs.len=0->xs= .nil
 | .nil,_=>rfl
 | .cons _ _ _ _ _ _,h=>by simp[Exs.len]at h
theorem zmm (ho:C.Ok)(args:Exs)(hd:hdX C.n ps k nm args)(hk:k<=2):ExpC C ps k nm m args at_:=by
 intro W S Z A c hT Gy hS hm hx;obtain⟨⟨h1,_⟩,hs,hi,_,h0,_⟩:=hd;obtain rfl:=Exs.len0 (h0 hk);have hB:=zkC (C:=C) (W:=W) (k:=k) (nm:=nm) (m:=m) (A:=A) (l:=Exs.nil.len) (c:=c) (at_:=at_);rcases(show k=1\/k=2 from by omega)with rfl|rfl
 ·have HV:=hdq (val_1 (ps:=ps) ho hB.bq hT (is_of hm));have HF:=hdq hB.fr;unfold boxE at HV HF;clear hT Gy hS hm hx hs hi h0 hB h1 hk;go_enter Tryz.func175,Tryz.ntmps175;go_wp2_with fail;go_ret;exact⟨_,rfl,HF.out,HV.out⟩
 ·have HV:=hdq (val_2 (ps:=ps) ho hB.bq hT hs (hi rfl));have HF:=hdq hB.fr;unfold boxE at HV HF;clear hT Gy hS hm hx hs hi h0 hB h1 hk;go_enter Tryz.func175,Tryz.ntmps175;go_wp2_with fail;go_ret;exact⟨_,rfl,HF.out,HV.out⟩
end
def ExS (p q b o:Nat)(P A:Option Addr)(l c:Nat)(v0 v1 v2 v3 v4:Value)(W:World):Prop:=W.cell? ⟨p,0,none⟩=some (.pointer P)/\W.cell? ⟨q,3,none⟩=some (.slice A l c)/\W.cell? ⟨b,o,none⟩=some v0/\W.cell? ⟨b,o+1,none⟩=some v1/\W.cell? ⟨b,o+2,none⟩=some v2/\W.cell? ⟨b,o+3,none⟩=some v3/\W.cell? ⟨b,o+4,none⟩=some v4
def PpE (C:BgC)(ps:List (List UInt8))(X:Bs->Ho ⊕ Int):Nat->Value->Nat->Nat->World->Prop:=λp v lo hi w=>if p=0 then ValP C ps v X lo hi w/\hi<=w.heap.size/\C.T<=w.heap.size else NewB 278 .nilFunc v lo hi w
theorem PpE.on (C:BgC)(ps:List (List UInt8))(X:Bs->Ho ⊕ Int):OnK C.T (PpE C ps X):=λp v lo hi w w' hs h=>by
 unfold PpE at h ⊢;by_cases e:p=0
 ·rw[if_pos e]at h ⊢;exact⟨h.1.later (Later.same hs h.2.1 h.2.2),leq9 h.2.1 hs.1,leq9 h.2.2 hs.1⟩
 ·rw[if_neg e]at h ⊢;exact h.same hs
theorem zgx {xs:Exs}{k nm m a t r}(e:xs= .cons k nm m a t r)(h:xs.len=1):r= .nil :=by
 subst e;exact Exs.len0 (by simpa[Exs.len]using h)
theorem zbP (n:Bn)(ps:List (List UInt8))(s:Bs)(k nm m a t):valL n ps s (.cons k nm m a t .nil)=(match valH n ps k nm m t a s with| .inl h=> .inl h| .inr x=> .inr [x]):=by
 simp only[valL,valH];rcases valL n ps s a with h|l
 ·rfl
 ·simp only;rcases zd3 n ps s k nm m t l with h|x<;>rfl
theorem zfC (n:Bn)(ps:List (List UInt8))(s:Bs)(k nm m a t r):valL n ps s (.cons k nm m a t r)=(match valH n ps k nm m t a s with| .inl h=> .inl h| .inr x=>match valL n ps s r with| .inl h=> .inl h| .inr q=> .inr (x::q)):=by
 simp only[valL,valH];rcases valL n ps s a with h|l
 ·rfl
 ·simp only;rcases zd3 n ps s k nm m t l with h|x<;>rfl
theorem zoK (n:Bn)(ps:List (List UInt8))(nm m at_ k0 n0 m0 a0 t0):ldV n nm at_ (valH n ps k0 n0 m0 t0 a0)=valH n ps 3 nm m at_ (.cons k0 n0 m0 a0 t0 .nil):=by
 funext s
 show ldV n nm at_ (valH n ps k0 n0 m0 t0 a0) s=(match valL n ps s (.cons k0 n0 m0 a0 t0 .nil)with| .inl h=> .inl h| .inr l=>zd3 n ps s 3 nm m at_ l)
 rw[zbP];unfold ldV;rcases valH n ps k0 n0 m0 t0 a0 s with h|x
 ·rfl
 ·rfl
theorem zoL (n:Bn)(ps:List (List UInt8))(nm m at_ k0 n0 m0 a0 t0):opV 4 at_ (valH n ps k0 n0 m0 t0 a0) (λ_=> .inr 0)=valH n ps 4 nm m at_ (.cons k0 n0 m0 a0 t0 .nil):=by
 funext s
 show opV 4 at_ (valH n ps k0 n0 m0 t0 a0) _ s=(match valL n ps s (.cons k0 n0 m0 a0 t0 .nil)with| .inl h=> .inl h| .inr l=>zd3 n ps s 4 nm m at_ l)
 rw[zbP];unfold opV;rcases valH n ps k0 n0 m0 t0 a0 s with h|x
 ·rfl
 ·rfl
theorem zoM (n:Bn)(ps:List (List UInt8))(k:Int)(hk:5<=k)(nm m at_ k0 n0 m0 a0 t0 k1 n1 m1 a1 t1):opV k at_ (valH n ps k0 n0 m0 t0 a0) (valH n ps k1 n1 m1 t1 a1)=valH n ps k nm m at_ (.cons k0 n0 m0 a0 t0 (.cons k1 n1 m1 a1 t1 .nil)):=by
 funext s
 show opV k at_ (valH n ps k0 n0 m0 t0 a0) _ s=(match valL n ps s (.cons k0 n0 m0 a0 t0 (.cons k1 n1 m1 a1 t1 .nil))with| .inl h=> .inl h| .inr l=>zd3 n ps s k nm m at_ l)
 rw[zfC,zbP];unfold opV;rcases valH n ps k0 n0 m0 t0 a0 s with h|x
 ·rfl
 ·rcases valH n ps k1 n1 m1 t1 a1 s with h|y
  ·rfl
  ·have h9:zd3 n ps s k nm m at_ [x,y]=if opW k x y=0 then .inr (opR k x y)else .inl ⟨5,opW k x y,at_⟩:=by
    unfold zd3;rw[if_neg (by omega),if_neg (by omega),if_neg (by omega)];rfl
   exact h9.symm
theorem zmn (C:BgC)(ps:List (List UInt8))(ho:C.Ok)(k:Int)(nm:ByteArray)(m:Int)(args:Exs)(at_:Int)(hd:hdX C.n ps k nm args)(hk:3<=k)(k0 n0 m0 a0 t0 r0)(e:args= .cons k0 n0 m0 a0 t0 r0)(h0:ExpC C ps k0 n0 m0 a0 t0)
  (h1:∀k1 n1 m1 a1 t1 r1,r0= .cons k1 n1 m1 a1 t1 r1->ExpC C ps k1 n1 m1 a1 t1):ExpC C ps k nm m args at_:=by
 intro W S Z A c hT Gy hS hm hx;obtain⟨b0,o0,rfl,Hh⟩:=hx.2.2 (by rw[e];simp[Exs.len]);rw[e]at Hh;obtain⟨⟨Gh,_,_,GK,_,e0,e1,e2,e4⟩,⟨A1,c1,e3,s1⟩,MR⟩:=Hh;obtain⟨⟨_,Q5⟩,hs,_,Ma,_,TL,RF⟩:=hd;obtain⟨l,hl⟩:=nmq args.len;have Np:0 < l:=by rw[hl,e];simp[Exs.len]
 have VU:l<=9223372036854775807:=by rw[hl];exact leq9 hx.1 hx.2.1.1
 obtain⟨l1,Fo⟩:=nmq a0.len;rw[<-Fo]at e3;obtain⟨w2,HJ⟩:=nmq (boxE C W k nm m (some ⟨b0,o0,none⟩) l c at_);have hB:BxE C W w2 k nm m (some ⟨b0,o0,none⟩) l c at_:=by rw[HJ];exact zkC
 have Fa:C.B<=W.heap.size:=by have h1:=ho.br;have h2:=ho.rT;omega
 have G7:b0 < W.heap.size:=ltq (hS _ Gh) Fa;have F9:C.T<=w2.drew.heap.size:=leq9 hT hB.fr.size;have Fe:∀w',Fr NoT W w'->SameS S W w':=λw' hf=>hf.same λb hb=>⟨ltq (hS b hb) Fa,id⟩;have Gq:∀w',Fr NoT W w'->PgAt C w':=λw' hf=>Gy.later ho (Later.of0 (lo:=0) (hi:=0) hf (Nat.zero_le _) hT);have Hw:∀w',Fr NoT W w'->_:=λw' hf=>h0 w' S Z A1 c1 (leq9 hT hf.size) (Gq w' hf) hS GK (s1.imp λ_ _ hx=>ExR.keep (Fe w' hf) hx);have GR:∀w',Fr NoT w2 w'->ExS W.heap.size (W.heap.size+1) b0 o0 (some ⟨C.P,0,none⟩) (some ⟨b0,o0,none⟩) l c (.int .u8 k0) (.string n0) (.int .i64 m0) (.slice A1 l1 c1) (.int .i64 t0) w':=λw' hf=>
  have He:=hB.fr.trans hf
  ⟨(hB.next hf).p.cell 0,(hB.next hf).q.cell 3,(He.cell G7 id).trans e0,(He.cell G7 id).trans e1,(He.cell G7 id).trans e2,(He.cell G7 id).trans e3,(He.cell G7 id).trans e4⟩
 have Ha:∀w7 x1 v1 yh G0,Fr NoT W w7->BxE C W w7 k nm m (some ⟨b0,o0,none⟩) l c at_->Bx W.heap.size w7.heap.size w7 x1 278 #[v1]->ValP C ps v1 (valH C.n ps k0 n0 m0 t0 a0) yh G0 w7->W.heap.size<=yh->G0<=w7.heap.size->
   (k=3->MkV C ps (valH C.n ps k nm m at_ args) W (.returned (.func (.func 229) #[] #[.pointer (some ⟨W.heap.size,0,none⟩),.pointer (some ⟨W.heap.size+1,0,none⟩),.pointer (some ⟨x1,0,none⟩)])) w7)/\
   (k≠3->∀w9 x2 v2 X1,Fr NoT w7 w9->Bx W.heap.size w9.heap.size w9 x2 277 #[v2]->ValP C ps v2 X1 W.heap.size w9.heap.size w9->opV k at_ (valH C.n ps k0 n0 m0 t0 a0) X1=valH C.n ps k nm m at_ args->
    MkV C ps (valH C.n ps k nm m at_ args) W (.returned (.func (.func 231) #[] #[.pointer (some ⟨x1,0,none⟩),.pointer (some ⟨W.heap.size+1,0,none⟩),.pointer (some ⟨x2,0,none⟩)])) w9):=by
  intro w7 x1 v1 yh G0 Hp Px G2 FN MQ Qx;refine⟨λk3=>?_,λk3 w9 x2 v2 X1 Gk GC Ka he=>?_⟩
  ·obtain⟨i,hi⟩:=Ma k3;refine⟨_,rfl,Hp,(val_3 ho hT (Gq _ Hp) Px.bp Px.bq G2 hs hi (FN.wide MQ Qx)).eq ?_⟩;have hr:=zgx e (TL (.inl k3));subst k3 hr e;exact zoK ..
  ·have ql:=Px.next Gk;refine⟨_,rfl,Hp.trans Gk,(val_5 ho hT ql.bq ⟨G2.1.fr0 Gk,G2.2.1,ltq G2.2.2 Gk.size⟩ GC ⟨by omega,Q5⟩ ((FN.later (Later.of0 Gk Qx (leq9 hT Hp.size))).wide MQ (leq9 Qx Gk.size)) Ka).eq he⟩
 rw[<-Fo]at Hw;have JV:=hdq GR;have HC:=hdq Hw;have HB:=hdq hB;have FG:=hdq Ha;unfold boxE at HJ;have HW:=hdq HJ;have GJ:=hdq F9;rw[<-hl];have q1:(k==1)=false:=by simp;omega
 have q2:(k==2)=false:=by simp;omega
 have HX:=hdq (aiq MR (aiq hS (aiq Gh (aiq Fa (aiq hT (aiq e (aiq hl (aiq hk (aiq TL (aiq RF (aiq h1 (aiq Gq Fe))))))))))));clear GR Hw hB Ha HJ F9 MR hS Gh Fa hT e hl hk TL RF h1 Gq Fe hx hm GK Gy e0 e1 e2 e3 e4 s1 Q5 hs Ma Fo G7 h0;go_enter Tryz.func175,Tryz.ntmps175;go_wp2_with fail;rw[<-HW.out];refine zad (ExS W.heap.size (W.heap.size+1) b0 o0 (some ⟨C.P,0,none⟩) (some ⟨b0,o0,none⟩) l c (.int .u8 k0) (.string n0) (.int .i64 m0) (.slice A1 l1 c1) (.int .i64 t0)) (λi=>decide (i < 7)) (by kernel_rfl) (JV _ (Fr.refl _ _).drew) (λhHeld=>?_);refine zaa 1 ?_;simp only[putsL];refine zai 0 hHeld ?_;simp only[putsL];refine zai 2 hHeld ?_;simp only[putsL];refine zaa 3 ?_;simp only[putsL];refine zai 4 hHeld ?_;simp only[putsL];refine zbI 2 [5,6] [20,5] (λ_=>true) (λo w=>ManyI w2.drew (PpE C ps (valH C.n ps k0 n0 m0 t0 a0)) o w) rfl (by decide) (by kernel_rfl) rfl (λo w h=>JV _ ((Fr.refl _ _).drew.trans h.fr)) (by kernel_rfl) rfl (λo w p i hI JZ Ff Fy _=>?_) (λo w hI JZ Ha=>?_) (ManyI.zero _ _)
 ·obtain⟨u,v,rfl⟩:=zm0 JZ;rcases p with _|_|p
  ·simp at Ff Fy;subst Ff Fy;cases v;all_goals
    simp only[putM,Act.put,List.setIfInBounds_toArray,List.set_cons_zero,List.set_cons_succ];refine wpOp_step (zak rfl) (λKK hK=>?_);go_simp;go_at_call 175;refine(HC w ((HB.fr.trans (Fr.refl NoT w2).drew).trans hI.fr)).mono ?_;rintro _ w5 ⟨v0,rfl,Hj,F4⟩;try dsimp only
    refine hK _ _ ?_;exact⟨v0,by kernel_rfl,hI.put (p:=0) GJ.out Hj (PpE.on _ _ _) (by unfold PpE;rw[if_pos rfl];exact⟨F4,lrq _,leq9 GJ.out (leq9 hI.fr.size Hj.size)⟩)⟩
  ·simp at Ff Fy;subst Ff Fy;cases u;all_goals
    simp only[putM,Act.put,List.setIfInBounds_toArray,List.set_cons_zero,List.set_cons_succ];refine wpOp_step (zak rfl) (λKK hK=>?_);go_simp;refine hK _ _ ?_;exact⟨_,by kernel_rfl,hI.lay (p:=1) GJ.out (PpE.on _ _ _) (λv lo hi w h=>by unfold PpE;rw[if_neg (by decide)];exact h)⟩
  ·simp at Ff
 ·obtain⟨u,v,rfl⟩:=zkA JZ Ha;obtain⟨gg,cps,rfl⟩:∃gg cps,u= .func (.func gg) #[] cps:=by
   obtain⟨_,_,h9,_⟩:=hI.at_ (p:=0) rfl;unfold PpE at h9;rw[if_pos rfl]at h9;obtain⟨gg,cps,h9,_⟩:=h9.1;exact⟨gg,cps,h9⟩
  obtain⟨u,hu⟩:=nmq (Value.func (.func gg) #[] cps);rw[<-hu]at hI;have Mf:∀v lo hi w,PpE C ps (valH C.n ps k0 n0 m0 t0 a0) 1 v lo hi w->NewB 278 .nilFunc v lo hi w:=λv lo hi w h=>by unfold PpE at h;rwa [if_neg (by decide)]at h
  obtain⟨g,rfl,hg,Lb⟩:=hI.place (p:=1) rfl Mf;have h7:=hI.set (p:=1) GJ.out (PpE.on _ _ _) rfl Mf u;obtain⟨yh,G0,GY,Qy,Qz⟩:=h7.at_ (p:=0) rfl;unfold upP at GY;rw[if_neg (by decide)]at GY;unfold PpE at GY;rw[if_pos rfl]at GY;obtain⟨g7,e7,qm,_⟩:=h7.place (p:=1) (ty:=278) (z:=u) rfl (λv lo hi w h=>by unfold upP at h;rwa [if_pos rfl]at h);obtain rfl:g=g7:=by simpa using e7
  have Nw:Bk (w.setCell ⟨g,0,none⟩ u) g 278 #[u]:=by simpa using Lb.set_ 0 u
  have MQ:W.heap.size<=w2.drew.heap.size:=HB.fr.size;have Hp:=(HB.fr.trans (Fr.refl NoT w2).drew).trans h7.fr;have V3:=FG _ g u yh G0 Hp (HB.next ((Fr.refl NoT w2).drew.trans h7.fr)) ⟨Nw,leq9 MQ hg,Nw.lt⟩ GY.1 (leq9 MQ Qy) Qz;have gH:=(HB.next ((Fr.refl NoT w2).drew.trans h7.fr)).q.cell 0;have Sv:=Lb.cell 0;have NO:=Lb.frozen 0;have KL:=Lb.lt;have qn:=hdq (JV _ ((Fr.refl NoT w2).drew.trans h7.fr));have GV:=hdq Hp;have H7:=hdq V3;have QW:=hdq (HB.next ((Fr.refl NoT w2).drew.trans h7.fr));simp only[getsL]at Sv gH;simp only[putM,Act.put,List.setIfInBounds_toArray,List.set_cons_zero,List.set_cons_succ];subst hu;clear hI h7 GY Qy Qz e7 qm Lb Nw V3 Hp hHeld hg MQ Ha JZ;refine zab 7 rfl (by kernel_rfl) (λKK hK=>?_);go_simp;refine hK _ _ (λh=>absurd h (by decide)) ?_;clear hK KK;try simp only[putsL]
  refine zaf (by kernel_rfl) ?_;have Y9:=QW.q.lt;clear Sv NO KL;obtain⟨w7,Mo⟩:=nmq (w.setCell ⟨g,0,none⟩ (.func (.func gg) #[] cps));rw[<-Mo]at gH qn GV H7 QW Y9 ⊢;clear Mo;by_cases k3:k=3
  ·have q3:(k==3)=true:=by simpa using k3
   have HE:=hdq (H7.1 k3);clear H7 k3;go_wp2_with fail;go_ret;exact HE.out
  ·have q3:(k==3)=false:=by simpa using k3
   have HE:=hdq (H7.2 k3);by_cases k4:k=4
   ·have q4:(k != 4)=false:=by simpa using k4
    have GC:=Bk.new w7 277 #[.func (.func 230) #[] #[]];have Gk:Fr NoT w7 (w7.alloc (.cells #[.func (.func 230) #[] #[]] 277)):=(Fr.refl _ _).alloc _;have HR:=hdq (HE _ _ _ (λ_=> .inr 0) Gk ⟨GC,GV.size,by simp⟩ val_4 (by
     obtain⟨_,_,_,_,_,e,_,_,TL,_⟩:=HX.out;have hr:=zgx e (TL (.inr k4));rw[hr]at e;rw[k4,e];exact zoL ..))
    clear GC Gk k4;go_wp2_with fail;go_ret;exact HR.out
   ·have q4:(k != 4)=true:=by simpa using k4
    obtain⟨MR,hS,Gh,Fa,hT,e,hl,hk,TL,RF,h1,Gq,Fe⟩:=HX.out;have G7:b0 < W.heap.size:=ltq (hS _ Gh) Fa;have Fp:args.len=2:=RF (by omega);obtain⟨k1,n1,m1,a1,t1,r1,rfl⟩:∃k1 n1 m1 a1 t1 r1,r0= .cons k1 n1 m1 a1 t1 r1:=by
     cases r0 with
     |nil=>rw[e]at Fp;simp[Exs.len]at Fp
     |cons a b c d f g=>exact⟨_,_,_,_,_,_,rfl⟩
    obtain rfl:r1= .nil :=Exs.len0 (by rw[e]at Fp;simp[Exs.len]at Fp;exact Fp);obtain⟨⟨_,_,_,Jq,_,f0,f1,f2,f4⟩,⟨A2,c2,f3,s2⟩,_⟩:=MR;have Uj:=h1 _ _ _ _ _ _ rfl;obtain⟨l2,TM⟩:=nmq a1.len;obtain⟨w8,GS⟩:=nmq (w7.alloc (.cells #[.func (.func 230) #[] #[]] 277));have GF:Fr NoT w7 w8:=by rw[GS];exact(Fr.refl _ _).alloc _
    have J8:Bk w8 w7.heap.size 277 #[.func (.func 230) #[] #[]]:=by rw[GS];exact Bk.new _ _ _
    have gI:w7.heap.size < w8.heap.size:=J8.lt;have QA:=GV.trans GF;have Uv:=hdq (show ∀w',Fr NoT w8 w'->ExS W.heap.size (W.heap.size+1) b0 (o0+5) (some ⟨C.P,0,none⟩) (some ⟨b0,o0,none⟩) l c (.int .u8 k1) (.string n1) (.int .i64 m1) (.slice A2 l2 c2) (.int .i64 t1) w' from λw' hf=>
     have He:=QA.trans hf
     ⟨(QW.next (GF.trans hf)).p.cell 0,(QW.next (GF.trans hf)).q.cell 3,(He.cell G7 id).trans f0,(He.cell G7 id).trans f1,(He.cell G7 id).trans f2,(He.cell G7 id).trans (by rw[TM];exact f3),(He.cell G7 id).trans f4⟩)
    have gJ:=hdq (show ∀w',Fr NoT w8 w'->_ from λw' hf=>Uj w' S Z A2 c2 (leq9 hT (QA.trans hf).size) (Gq w' (QA.trans hf)) hS Jq (s2.imp λ_ _ hx=>ExR.keep (Fe w' (QA.trans hf)) hx));rw[<-TM]at gJ;have V4:(1:Int) < (l:Int):=by rw[hl];omega
    have Za:=hdq (show ∀w9 v2,Fr NoT w8 w9->ValP C ps v2 (valH C.n ps k1 n1 m1 t1 a1) w8.heap.size w9.heap.size w9->MkV C ps (valH C.n ps k nm m at_ args) W (.returned (.func (.func 231) #[] #[.pointer (some ⟨g,0,none⟩),.pointer (some ⟨W.heap.size+1,0,none⟩),.pointer (some ⟨w7.heap.size,0,none⟩)])) (w9.setCell ⟨w7.heap.size,0,none⟩ v2)from λw9 v2 hf hv=>by
     have h9:=GV.size;have h8:=GF.size;have Jn:=hf.size;refine HE _ w7.heap.size v2 _ ((GF.trans hf).high (lrq _) 0 _) ⟨by simpa using (J8.fr0 hf).set_ 0 v2,h9,by simp;omega⟩ ((hv.later (Later.far (lrq _) (by omega) ⟨by omega,.inl gI⟩ 0 v2)).wide (by omega) (by simp)) ?_;rw[e];exact zoM _ _ _ (by omega) _ _ _ _ _ _ _ _ _ _ _ _ _)
    have qo:=hdq (λw9 (hf:Fr NoT w8 w9)=>J8.fr0 hf);clear hS Gh Fa hT e hl hk TL RF h1 Gq Fe G7 Fp Uj TM GF J8 gI QA f0 f1 f2 f3 f4 s2 Jq HX HE k4 k3;have Zb:=hdq GS;clear GS;go_wp2_with fail;rw[<-Zb.out];refine zad (ExS W.heap.size (W.heap.size+1) b0 (o0+5) (some ⟨C.P,0,none⟩) (some ⟨b0,o0,none⟩) l c (.int .u8 k1) (.string n1) (.int .i64 m1) (.slice A2 l2 c2) (.int .i64 t1)) (λi=>decide (i < 6)) (by kernel_rfl) (Uv _ (Fr.refl _ _).drew) (λhHeld=>?_);refine zaa 1 ?_;simp only[putsL];refine zai 0 hHeld ?_;simp only[putsL];refine zai 2 hHeld ?_;simp only[putsL];refine zaa 3 ?_;simp only[putsL];refine zai 4 hHeld ?_;simp only[putsL];refine zab 5 rfl (by kernel_rfl) (λKK hK=>?_);go_simp;go_at_call 175;refine(gJ _ (Fr.refl NoT w8).drew).mono ?_;rintro _ w9 ⟨v2,rfl,Gk,Sh⟩;have RG:=(Fr.refl NoT w8).drew.trans Gk;have gK:=Za w9 v2 RG Sh;obtain⟨xh,zq,rfl,_⟩:=Sh;have Uw:=qo _ RG;have z0:=Uw.cell 0;have z1:=Uw.frozen 0;have z2:=Uw.lt;have HR:=hdq gK;have KV:=hdq RG;simp only[getsL]at z0;clear Gk RG gK Uw;try dsimp only
    refine hK _ _ (λ_ _=>Uv _ KV.out) ?_;clear hK KK;try simp only[putsL]
    refine zab 6 rfl (by kernel_rfl) (λKK hK=>?_);go_simp;refine hK _ _ (λh=>absurd h (by decide)) ?_;clear hK KK;try simp only[putsL]
    refine zaf (by kernel_rfl) ?_;go_wp2_with fail;go_ret;exact HR.out
theorem znR (C:BgC)(ps:List (List UInt8))(ho:C.Ok)(k:Int)(nm:ByteArray)(m:Int)(args:Exs)(at_:Int)(hd:hdX C.n ps k nm args)(h:∀i k0 n0 m0 a0 t0 r0,Exs.drop i args= .cons k0 n0 m0 a0 t0 r0->ExpC C ps k0 n0 m0 a0 t0):ExpC C ps k nm m args at_:=by
 by_cases hk:k<=2
 ·exact zmm ho args hd hk
 ·obtain⟨k0,n0,m0,a0,t0,r0,e⟩:∃k0 n0 m0 a0 t0 r0,args= .cons k0 n0 m0 a0 t0 r0:=by
   obtain⟨_,_,_,_,_,h1,h2⟩:=hd;cases args with
   |nil=>
    exfalso
    by_cases h4:k=3\/k=4
    ·have:=h1 h4;simp[Exs.len]at this
    ·have:=h2 (by omega);simp[Exs.len]at this
   |cons a b c d f g=>exact⟨_,_,_,_,_,_,rfl⟩
  exact zmn C ps ho k nm m args at_ hd (by omega) k0 n0 m0 a0 t0 r0 e (h 0 _ _ _ _ _ _ (by rw[e];rfl)) λk1 n1 m1 a1 t1 r1 e1=>h 1 _ _ _ _ _ _ (by rw[e,e1];rfl)
theorem zdE (C:BgC)(ps:List (List UInt8))(ho:C.Ok):∀xs:Exs,wfX C.n ps xs->∀i k nm m a t r,Exs.drop i xs= .cons k nm m a t r->ExpC C ps k nm m a t
 | .nil,_,i,_,_,_,_,_,_,h=>by cases i<;>simp[Exs.drop]at h
 | .cons k nm m args at_ r,hw,0,k0,n0,m0,a0,t0,r0,h=>by
  simp only[Exs.drop,Exs.cons.injEq]at h;obtain⟨rfl,rfl,rfl,rfl,rfl,_⟩:=h;exact znR C ps ho _ _ _ _ _ hw.1 (zdE C ps ho _ hw.2.1)
 | .cons k nm m args at_ r,hw,i+1,k0,n0,m0,a0,t0,r0,h=>by
  simp only[Exs.drop]at h;exact zdE C ps ho r hw.2.2 i _ _ _ _ _ _ h
