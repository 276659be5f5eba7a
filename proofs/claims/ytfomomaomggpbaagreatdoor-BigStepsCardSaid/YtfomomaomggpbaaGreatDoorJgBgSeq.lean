/- big: statements one after another: the closure. -/
import Derived.Test.YtfomomaomggpbaaGreatDoorJgBgPut2
set_option linter.all false
set_option maxHeartbeats 3200000
set_option maxRecDepth 100000
namespace Go.Proofs.YtfomomaomggpbaaGreatDoor
open Go.RowKit Go.Shelf
abbrev DoR:=Bs->Option Ho->Bs->Prop
def seqD:List DoR->DoR
 | [],s,h,t=>h=none/\t=s
 |D::r,s,h,t=>(∃z,h=some z/\D s (some z) t)\/∃u,D s none u/\seqD r u h t
section
variable {C:BgC} {ps:List (List UInt8)} {w:World} {lo hi q:Nat} {k:Int} {nm:ByteArray} {at_:Int}
theorem all_1 {x:Nat}{A:Option Addr}{c:Nat}{vs:List Value}{Ds:List DoR}(ho:C.Ok)(hT:C.T<=lo)(hx:Bx lo hi w x 147 #[.slice A vs.length c])(Hz:RowF lo hi w A c vs)(hlen:vs.length=Ds.length)(hv:∀(i:Nat) v D,vs[i]?=some v->Ds[i]?=some D->DoP C ps v D lo hi w)(Wc:∀D∈Ds,∀s h t,D s h t->t.left<=s.left):
  DoP C ps (.func (.func 55) #[] #[.pointer (some ⟨x,0,none⟩)]) (seqD Ds) lo hi w:=by
 refine⟨_,_,rfl,enters_of Tryz.func55 (by kernel_rfl) rfl,λW oc nb s h t hW hD=>?_⟩;have c0:=(hW.bx ho hT hx).cell 0;simp only[List.getElem?_toArray,List.getElem?_cons_zero]at c0;obtain⟨n,hn⟩:=nmq vs.length;rw[<-hn]at c0;have kI:n<=c:=by rw[hn];exact Hz.1
 have FS:c<=9223372036854775807:=Hz.2.1;have LG:=hdq (λW' t (h':RunAt C lo hi w W' ps oc nb t)=>Hz.run ho hT h');have HV:=hdq hv;have HN:=hdq hn;have Pk:=hdq hlen;have Zg:=hdq Wc;have HD:=hdq hD;have HW:=hdq hW;show Calls Tryz.prog 55 #[.map (some nb),.pointer (some ⟨x,0,none⟩)] W (DoQ C oc h t W)
 clear hx Hz hlen hv Wc hD hW hn hT ho;go_enter Tryz.func55,Tryz.ntmps55;go_wp2_with fail;go_loopw [7] (λi wr=>∃(k:Nat)(s':Bs),k<=n/\i= .int .i64 k/\Hid (RunAt C lo hi w wr ps oc nb s')/\Hid (seqD (Ds.drop k) s' h t)/\Hid (Fr (C.MutO oc) W wr)) (λi _=>n - (intOf i).toNat);case atStart=>exact⟨0,s,Nat.zero_le _,rfl,HW,hdq (by rw[List.drop_zero];exact HD.out),hdq (Fr.refl _ _)⟩
 case round=>
  clear HW HD c0;obtain⟨k,s',hk,rfl,H1,HS,HF⟩:=hrel;by_cases Hl:k < n
  ·have JM:k < vs.length:=by rw[<-HN.out];exact Hl
   have Zk:k < Ds.length:=by rw[<-Pk.out];exact JM
   obtain⟨v,ev⟩:∃v,vs[k]?=some v:=⟨_,List.getElem?_eq_getElem JM⟩;obtain⟨D,eD⟩:∃D,Ds[k]?=some D:=⟨_,List.getElem?_eq_getElem Zk⟩;have LN:Ds.drop k=D::Ds.drop (k+1):=by
    rw[List.drop_eq_getElem_cons Zk]
    congr 1
    exact(List.getElem?_eq_some_iff.1 eD).2
   have hs:=HS.out;rw[LN]at hs;obtain⟨b,rfl,Gw,GP,gR⟩:=(LG _ _ H1.out).2.2 (by omega);have Kr:=gR k v ev;obtain⟨g,caps,rfl,hg,Hw⟩:=HV k v D ev eD;have GD:(k:Int) < (n:Int):=by omega
   have TR:∃h1 t1,D s' h1 t1/\((∃z,h1=some z/\h=some z/\t=t1)\/(h1=none/\seqD (Ds.drop (k+1)) t1 h t)):=by
    rcases hs with⟨z,rfl,hd⟩|⟨u,hd,hr⟩
    ·exact⟨_,_,hd,.inl ⟨z,rfl,rfl,rfl⟩⟩
    ·exact⟨_,_,hd,.inr ⟨rfl,hr⟩⟩
   obtain⟨h1,t1,hd,MU⟩:=TR;have HC:=hdq (Hw wr oc nb s' h1 t1 H1.out hd);have Fo:=Zg D (List.mem_of_getElem? eD) _ _ _ hd;have Wd:=hdq MU;have qD:=hdq Fo;unfold Enters at hg;clear hs LN Hw hd MU Fo ev eD JM Zk gR Gw GP HS;go_wp2_with fail;refine HC.mono ?_;rintro e w2 ⟨rfl,GR,He⟩;rcases Wd.out with⟨z,rfl,rfl,rfl⟩|⟨rfl,hr⟩
   ·exact⟨rfl,rfl,GR,HF.trans He⟩
   have H2:=hdq (H1.next He GR qD.out);have Hv:=hdq (HF.trans He);have HR:=hdq hr;clear GR He hr Wd HC Kr;unfold zem;go_wp2_with fail;go_roundw;case rel=>exact⟨k+1,t1,by omega,by go_num,H2,HR,Hv⟩
   case measure=>simp[intOf];omega
  ·have PC:k=n:=by omega
   have hs:=HS.out;rw[List.drop_of_length_le (by rw[<-Pk.out,<-HN.out];omega)]at hs;obtain⟨rfl,rfl⟩:=hs;have Fz:¬(k:Int) < (n:Int):=by omega
   have HQ:=hdq (show DoQ C oc none t W (.returned (.tuple #[])) wr from⟨rfl,H1.st,HF.out⟩);clear HS PC Hl;go_wp2_with fail;go_end0;exact HQ.out
end
open Go.Maps
def gvO (at_:Int):List (Bs->Ho ⊕ Int)->Bs->(Ho ⊕ List Int)×Bs
 | [],s=>(.inr [],s)
 |X::r,s=>match s.left with
  |0=>(.inl ⟨2,0,at_⟩,s)
  |m+1=>match X {s with left:=m}with
   | .inl h=>(.inl h,{s with left:=m})
   | .inr x=>match gvO at_ r {s with left:=m}with
    |(.inl h,t)=>(.inl h,t)
    |(.inr xs,t)=>(.inr (x::xs),t)
def gvC (xs:List Int):(Ho ⊕ List Int)×Bs->(Ho ⊕ List Int)×Bs
 |(.inl h,t)=>(.inl h,t)
 |(.inr ys,t)=>(.inr (xs++ys),t)
def calD (at_:Int)(Xs:List (Bs->Ho ⊕ Int))(DB:DoR)(s:Bs)(h:Option Ho)(t:Bs):Prop:=
 (s.left=0/\h=some ⟨2,0,at_⟩/\t=s)\/∃m,s.left=m+1/\((∃z,gvO at_ Xs {s with left:=m}=(.inl z,t)/\h=some z)\/∃xs t1 u,gvO at_ Xs {s with left:=m}=(.inr xs,t1)/\DB {t1 with own:=xs} h u/\t={u with own:=t1.own})
theorem Fr.newer {T:Nat->Prop}{W w w':World}{g:Nat}(h:Fr T W w)(hg:w.grownBy w' (some g))(hn:W.heap.size<=g):Fr T W w':=
 ⟨hg.os.trans h.os,hg.tape.trans h.tape,hg.output.trans h.output,leq9 h.size hg.size,λi hi ht=>(hg.block i (ltq hi h.size) (λe=>by have:=Option.some.inj e;omega)).trans (h.block i hi ht)⟩
section
variable {C:BgC} {ps:List (List UInt8)} {w:World} {lo hi q:Nat} {k:Int} {nm:ByteArray} {at_:Int}
theorem RunAt.off {W W':World}{oc:List Nat}{nb:Nat}{s:Bs}(h:RunAt C lo hi w W ps oc nb s)(ho:C.Ok){T:Nat->Prop}(hf:Fr T W W')(hT:∀g,T g->hi<=g/\C.T<=g/\g∉oc/\g≠nb):RunAt C lo hi w W' ps oc nb s:=by
 have h1:=ho.rT;have h2:=ho.vT;have h3:=ho.br;refine⟨⟨⟨leq9 h.lat.size.1 hf.size,leq9 h.lat.size.2 hf.size⟩,λi hi hn=>(hf.block i (by have:=h.lat.size;omega) λht=>?_).trans (h.lat.block i hi hn)⟩,h.new,h.st.fr ho hf ?_ ?_ (λb hb ht=>?_) (λb hb ht=>?_) (λb hb ht=>(hT b ht).2.2.1 hb) λb hb ht=>?_,?_⟩
 ·have:=hT i ht;omega
 ·intro ht;have:=(hT _ ht).2.1;omega
 ·intro ht;have:=(hT _ ht).2.1;omega
 ·have:=(hT _ ht).2.1;have:=ho.bT b hb;omega
 ·have:=(hT _ ht).2.1;have:=(ho.row _ b hb).1;omega
 ·have:=(hT _ ht).2.1;omega
 ·obtain⟨N,f,g1,g2,g3⟩:=h.sc.map;exact⟨⟨N,f,g1.fr hf λht=>(hT _ ht).2.2.2 rfl,g2,g3⟩,h.sc.ap,h.sc.out⟩
def CpR (w:World)(nb r own N:Nat)(f:List UInt8->Option Value)(D:DataW Value):Prop:=∃lf cnt,w.ranges Tryz.prog 9 zdw nb r N D lf cnt/\cnt<=N/\MpV w own (N - cnt) (λt=>if lf (.string t)then none else f t)
theorem zn0 {at_:Int}{X:Bs->Ho ⊕ Int}{r:List (Bs->Ho ⊕ Int)}{s:Bs}{m:Nat}{x:Int}{xs:List Int}(hm:s.left=m+1)(hx:X {s with left:=m}= .inr x):gvC xs (gvO at_ (X::r) s)=gvC (xs++ [x]) (gvO at_ r {s with left:=m}):=by
 simp only[gvO,hm,hx];rcases gvO at_ r {s with left:=m}with⟨h|ys,t⟩
 ·rfl
 ·simp[gvC]
theorem zfE:∀ {l:List (List UInt8)} {t:List UInt8} {k:Nat},posI l t=some k->l[k]?=some t
 | [],_,_,h=>by simp[posI]at h
 |x::r,t,k,h=>by
  unfold posI at h;by_cases e:x=t
  ·rw[if_pos e]at h;obtain rfl:=Option.some.inj h;simp[e]
  ·rw[if_neg e]at h;cases e2:posI r t with
   |none=>rw[e2]at h;simp at h
   |some j=>
    rw[e2]at h;simp at h;subst h;simpa using zfE e2
structure GvR (C:BgC)(W wr:World)(names:List (List UInt8))(own k l:Nat)(xs:List Int)(ocs:List Nat)(fo:List UInt8->Option Value):Prop where
 map:∃nO,MpV wr own nO fo/\nO+l<=1000000
 glob:∀nm i,posI C.n.vars nm=some i->fo nm=some (.pointer (some ⟨C.V,i,none⟩))
 par:∀(j:Nat) nm,names[j]?=some nm->j < k->∃b,ocs[j]?=some b/\fo nm=some (.pointer (some ⟨b,0,none⟩))
 xl:xs.length=k
 ol:ocs.length=k
 bk:∀(j b:Nat)(x:Int),ocs[j]?=some b->xs[j]?=some x->Bk wr b 3 #[.int .i64 x]
 nd:ocs.Nodup
 hi:∀b∈ocs,W.heap.size<=b/\b < wr.heap.size/\b≠own
 x64:∀x∈xs,is64 x
theorem GvR.step {W1 wr w6:World}{names:List (List UInt8)}{own k' m5:Nat}{xs:List Int}{ocs:List Nat}{fo:List UInt8->Option Value}(h:GvR C W1 wr names own k' (m5+1) xs ocs fo)(ho:C.Ok)(h1:W1.heap.size<=own)(hT:C.T<=W1.heap.size)(hf:Fr (λb=>b=C.R) wr w6){x:Int}(hx:is64 x){pn:ByteArray}(hk:names[k']?=some pn.data.toList)(Wf:pn.size<=9223372036854775807)(KU:names.Nodup)(GU:∀nm∈names,posI C.n.vars nm=none)(MQ:W1.heap.size<=wr.heap.size):
  ∃w8,(Instr.mapUpdate 75 (.map (some own)) (.string pn) (.pointer (some ⟨w6.heap.size,0,none⟩))).run Tryz.prog (w6.alloc (.cells #[.int .i64 x] 3))= .ok () w8/\(w6.alloc (.cells #[.int .i64 x] 3)).grownBy w8 (some own)/\
   GvR C W1 w8 names own (k'+1) m5 (xs++ [x]) (ocs++ [w6.heap.size]) (λy=>if y=pn.data.toList then some (.pointer (some ⟨w6.heap.size,0,none⟩))else fo y):=by
 obtain⟨nO,hm,hn⟩:=h.map;have JZ:=hm.lt;have vW:=ho.rT;have Zl:own≠C.R:=by omega
 have Hp:Fr (λb=>b=C.R) wr (w6.alloc (.cells #[.int .i64 x] 3)):=hf.alloc _;have qE:=hm.fr Hp Zl;have Ht:=hf.size;obtain⟨w8,hu,qF,hg⟩:=qE.put Tryz.underlying75 (s:=pn) Wf (.pointer (some ⟨w6.heap.size,0,none⟩)) (by unfold maxLen;omega);have VD:w6.heap.size+1<=w8.heap.size:=by have:=hg.size;simpa using this
 refine⟨w8,hu,hg,⟨⟨_,qF,by omega⟩,λnm i hi=>?_,λj nm hj Qv=>?_,by simp[h.xl],by simp[h.ol],λj b y hb hy=>?_,?_,λb hb=>?_,λy hy=>?_⟩⟩
 ·have Gc:nm≠pn.data.toList:=λe=>by
   have:=GU _ (List.mem_of_getElem? hk);rw[<-e,hi]at this;cases this
  simp only[if_neg Gc];exact h.glob nm i hi
 ·by_cases e:j=k'
  ·subst e;rw[hk]at hj;obtain rfl:=Option.some.inj hj;refine⟨w6.heap.size,?_,by simp⟩;rw[List.getElem?_append_right (by rw[h.ol];exact lrq _),h.ol];simp
  ·obtain⟨b,hb,Xp⟩:=h.par j nm hj (by omega);have Gc:nm≠pn.data.toList:=λe2=>by
    rw[e2]at hj;obtain⟨l1,g1⟩:=List.getElem?_eq_some_iff.1 hj;obtain⟨l2,g2⟩:=List.getElem?_eq_some_iff.1 hk;exact e ((List.getElem_inj KU).1 (g1.trans g2.symm))
   refine⟨b,?_,by simp only[if_neg Gc];exact Xp⟩;rw[List.getElem?_append_left (List.getElem?_eq_some_iff.1 hb).1];exact hb
 ·by_cases hj:j < k'
  ·rw[List.getElem?_append_left (by rw[h.ol];exact hj)]at hb;rw[List.getElem?_append_left (by rw[h.xl];exact hj)]at hy;have qG:=h.hi b (List.mem_of_getElem? hb);have Gm:=(h.bk j b y hb hy).fr Hp (λe=>by have e:b=C.R:=e;omega);exact(hg.block b Gm.lt (λe=>qG.2.2 (Option.some.inj e))).trans Gm
  ·rw[List.getElem?_append_right (by rw[h.ol];omega),h.ol]at hb;rw[List.getElem?_append_right (by rw[h.xl];omega),h.xl]at hy;have qH:j - k'=0:=by
    have:=(List.getElem?_eq_some_iff.1 hb).1;simp at this;omega
   rw[qH]at hb hy;simp at hb hy;subst hb hy;have Gm:=Bk.new w6 3 #[.int .i64 x];exact(hg.block _ Gm.lt (λe=>by have:=Option.some.inj e;omega)).trans Gm
 ·rw[List.nodup_append];refine⟨h.nd,by simp,λa ha b hb e=>?_⟩;simp at hb;have:=h.hi a ha;omega
 ·rcases List.mem_append.1 hb with hb|hb
  ·have:=h.hi b hb;exact⟨this.1,by omega,this.2.2⟩
  ·simp at hb;subst hb;exact⟨by omega,by omega,by omega⟩
 ·rcases List.mem_append.1 hy with hy|hy
  ·exact h.x64 y hy
  ·simp at hy;rw[hy];exact hx
theorem zoP {p x3 x4:Nat}{ty:TypeId}{cs:Array Value}{Ap A:Option Addr}{cp c:Nat}{vb:Value}{vs:List Value}{Xs:List (Bs->Ho ⊕ Int)}{DB:DoR}{params:List Va}{S:Nat->Prop}{Z:Prop}(ho:C.Ok)(hT:C.T<=lo)(Gy:PgAt C w)(hp:Bx lo hi w p 69 #[.pointer (some ⟨C.P,0,none⟩)])(hq:Bx lo hi w q ty cs)(h6:cs[6]?=some (.int .i64 at_))
  (h3:Bx lo hi w x3 83 #[.slice Ap params.length cp,vb]) (h4:Bx lo hi w x4 276 #[.slice A vs.length c]) (Hz:RowF lo hi w A c vs) (hlen:vs.length=Xs.length) (MF:params.length=Xs.length) (hv:∀(i:Nat) v X,vs[i]?=some v->Xs[i]?=some X->ValP C ps v X lo hi w)
  (Nt:DoP C (params.map (·.nm.data.toList)) vb DB lo hi w) (LI:SlR (VaR w S Z params) params.length 24 Ap cp) (hS:∀b,S b->b < C.B) (Ht:∀x∈params,x.nm.size<=9223372036854775807) (KU:(params.map (·.nm.data.toList)).Nodup) (GU:∀nm∈params.map (·.nm.data.toList),posI C.n.vars nm=none):
  DoP C ps (.func (.func 183) #[] #[.pointer (some ⟨p,0,none⟩),.pointer (some ⟨q,0,none⟩),.pointer (some ⟨x3,0,none⟩),.pointer (some ⟨x4,0,none⟩)]) (calD at_ Xs DB) lo hi w:=by
 obtain⟨gB,capsB,rfl,qI,QF⟩:=Nt;refine⟨_,_,rfl,enters_of Tryz.func183 (by kernel_rfl) rfl,λW oc nb s h t MT hD=>?_⟩;have hW:=MT.fr0 ho (Fr.refl NoT W).drew;have GK:=run_makeMap (P:=Tryz.prog);have HS:=hdq (λW' t (h':RunAt C lo hi w W' ps oc nb t)=>h'.cts ho hT Gy hp hq (i:=6) h6);have HC:=hdq (λW' t (h':RunAt C lo hi w W' ps oc nb t)=>zbO h'.st ho at_);have KN:=hdq (λW' W2 t (h':RunAt C lo hi w W' ps oc nb t) (hf:Fr NoT W' W2)=>h'.fr0 ho hf);have LG:=hdq (λW' t (h':RunAt C lo hi w W' ps oc nb t)=>Hz.run ho hT h');have PZ:=hdq (λW' t (h':RunAt C lo hi w W' ps oc nb t)=>h'.bx ho hT h3);have ND:=hdq (λW' t (h':RunAt C lo hi w W' ps oc nb t)=>h'.bx ho hT h4);have HV:=hdq hv;have qJ:=hdq QF;have HO:=hdq ho;have Ph:=hdq (λW' t (h':RunAt C lo hi w W' ps oc nb t)=>(show SlR (VaR W' S Z params) params.length 24 Ap cp from LI.imp λ_ _ hx=>VaR.keep (λpp UP=>by
  have hb:=hS _ UP;have h1:=ho.br;have h2:=ho.rT;have h3:=ho.bl;have Jp:¬C.Mut pp.block:=by
   rintro(e|e|e|e)
   ·omega
   ·have:=h'.st.sto.vl;omega
   ·obtain⟨i,hi⟩:=List.mem_iff_getElem?.1 e;have M0:i < t.ls.length:=by rw[<-h'.st.sto.len];exact(List.getElem?_eq_some_iff.1 hi).1
    have:=(h'.st.sto.each i _ _ hi (List.getElem?_eq_getElem M0)).1;omega
   ·have:=ho.bm;omega
  have Wg:=h'.lat.block pp.block (.inl (by omega)) Jp;exact⟨World.cell?_of_block Wg,World.frozen?_of_block Wg⟩) hx))
 have LR:=hdq Ht;have Q3:=hdq KU;have KJ:=hdq GU;have Pk:=hdq (aiq hlen MF);have Zm:params.length<=9223372036854775807:=leq9 LI.1 LI.2.1.1;have Nj:vs.length<=c/\c<=9223372036854775807:=⟨Hz.1,Hz.2.1⟩;have HW:=hdq hW;unfold Enters at qI;show Calls Tryz.prog 183 #[.map (some nb),.pointer (some ⟨p,0,none⟩),.pointer (some ⟨q,0,none⟩),.pointer (some ⟨x3,0,none⟩),.pointer (some ⟨x4,0,none⟩)] W (DoQ C oc h t W)
 have HD:=hdq hD;obtain⟨R,hR⟩:=nmq C.R;rw[<-hR]at HC;have HR:=hdq hR;have gS:=hdq Nj;obtain⟨np,TT⟩:=nmq params.length;obtain⟨nv,TU⟩:=nmq vs.length;rw[<-TT]at Zm PZ;rw[<-TU]at ND;have Rr:=hdq TT;have RH:=hdq TU;clear QF hq hp h3 h4 hT hW MT Gy hD ho h6 hR Hz hlen MF hv LI hS Ht KU GU Nj TT TU;go_enter Tryz.func183,Tryz.ntmps183;go_wp2_with fail;refine zad (CtS C p q 6 at_) (λ_=>true) (by kernel_rfl) (HS _ _ HW.out) (λhHeld=>?_);refine zaa 4 ?_;simp only[putsL];refine zai 0 hHeld ?_;simp only[putsL];refine zai 5 hHeld ?_;simp only[putsL];refine zaa 1 ?_;simp only[putsL];refine zaa 2 ?_;simp only[putsL];refine zai 3 hHeld ?_;simp only[putsL];refine zab 6 rfl (by kernel_rfl) (λKK hK=>?_);go_simp;go_at_call 110;rw[<-HR.out];refine(HC _ _ HW.out).mono ?_;rintro e w1 (⟨h0,rfl,rfl⟩|⟨m,hm,rfl,Fc,Hg⟩)
 ·rcases HD.out with⟨_,rfl,rfl⟩|⟨m,hm,_⟩
  ·exact⟨rfl,rfl,HW.st,(Fr.refl _ _).drew⟩
  ·omega
 have F5:RunAt C lo hi w w1 ps oc nb {s with left:=m}:=HW.next Hg.toO Fc (by show m<=s.left;omega);have hd:((∃z,gvO at_ Xs {s with left:=m}=(.inl z,t)/\h=some z)\/∃xs t1 u,gvO at_ Xs {s with left:=m}=(.inr xs,t1)/\DB {t1 with own:=xs} h u/\t={u with own:=t1.own}):=by
  rcases HD.out with⟨h0,_,_⟩|⟨m',Vl,hl⟩
  ·omega
  ·obtain rfl:m=m':=by omega
   exact hl
 obtain⟨N,f,TV,gT,Sy,Wh⟩:=F5.sc.map;obtain⟨D,Hb,gU⟩:=TV;have H1:=hdq F5;have Ld:=hdq hd;have Xq:=hdq gU;have UM:=hdq Sy;have gV:=hdq (show N+m<=1000000 from gT);have vX:=hdq F5.sc.ap;have Hs:=hdq (show Fr (C.MutO oc) W w1 from((Fr.refl _ _).drew.trans Hg).toO);have Fu:=Hb.size_le;have JZ:=Hb.lt;clear Fc Hg F5 hm hHeld HD HW hd gU Sy Wh gT;try dsimp only
 refine hK _ _ (λ_ _=>HS _ _ H1.out) ?_;clear hK KK;try simp only[putsL]
 refine zaf (by kernel_rfl) ?_;have e1:(w1.alloc (.map #[] 0)).heap.size =w1.heap.size+1:=by simp
 go_wp2_with (first
  |(at_range;refine wpList_range_own _ rfl _ 75 rfl 9 78 strKey Tryz.underlying75 _ nb N D rfl (Hb.alloc _) ?_;intro w0 TW RI Uq)
  |go_in)
 go_frame
 rw[e1]at TW Uq ⊢;have Wi:CpR w0 nb (w1.heap.size+1) w1.heap.size N f D:=by
  refine⟨_,_,TW,Fu,?_⟩;have h1:MpV w0 w1.heap.size 0 λ_=>none:=(MpV.made w1).kept RI (by simp);have h2:(λt=>if Maps.has D (.string t)then none else f t)=λ_=>(none:Option Value):=by
   funext t
   rw[(Xq t).1];cases f t<;>simp
  rw[h2];obtain⟨D',q1,q2⟩:=h1;exact⟨D',q1.mono (Nat.zero_le _),q2⟩
 have Tg:=hdq Wi;have Pu:=hdq (show Fr NoT w1 w0 from((Fr.refl NoT w1).alloc (.map #[] 0)).trans (Fr.grown RI (λg e=>by simp at e)));have SO:=hdq Fu;clear Wi TW RI Uq Hb Fu e1;go_loopw [7] (λ_ wr=>Hid (CpR wr nb (w1.heap.size+1) w1.heap.size N f D)/\Hid (Fr NoT w1 wr)) (λ_ wr=>wr.rangeLeft nb (w1.heap.size+1));case atStart=>exact⟨Tg,Pu⟩
 case round=>
  clear Tg Pu;obtain⟨Tg,Pu⟩:=hrel;obtain⟨lf,cnt,Xr,qK,TV⟩:=Tg.out;clear Tg;go_wp2_with (first
   |(at_next;refine wpList_next_ranges _ rfl _ rfl 9 strKey zdw Value.string (λv:Value=>v) (λkey kl hk=>by obtain⟨x,rfl,_⟩:=WideMaps.string_of_keyOf (P:=Tryz.prog) Tryz.underlying9 hk;exact⟨x,rfl⟩) (λv y _=>⟨v,rfl⟩) nb (w1.heap.size+1) N D lf cnt rfl Xr ?_ ?_)
   |go_in)
  ·intro MY Np
   rename World=>wa
   have Xp:(λt=>if lf (.string t)then none else f t)=f:=by
    funext t
    rw[Np];rfl
   rw[Xp,MY]at TV;have h2:=KN _ _ _ H1.out Pu.out;have Fv:=PZ _ _ h2;have b0:=Fv.cell 0;simp only[getsL]at b0;have H2:=hdq h2;have gW:=hdq (show GvR C w1 wa (params.map (·.nm.data.toList)) w1.heap.size 0 m [] [] f from
    ⟨⟨_,TV,by have:=gV.out;omega⟩,UM.out,λj nm _ hj=>absurd hj (Nat.not_lt_zero _),rfl,rfl,λj b x hb=>by simp at hb,List.nodup_nil,λb hb=>by simp at hb,λx hx=>by simp at hx⟩)
   clear Xp TV h2 Fv Xr MY Np qK;go_wp2_with fail;go_loopw [33] (λi wr=>∃(k l:Nat)(xs:List Int)(ocs:List Nat)(fo:List UInt8->Option Value),k<=np/\i= .int .i64 k/\Hid (RunAt C lo hi w wr ps oc nb {s with left:=l})/\Hid (GvR C w1 wr (params.map (·.nm.data.toList)) w1.heap.size k l xs ocs fo)/\Hid (Fr (C.MutO oc) w1 wr)/\Hid (gvO at_ Xs {s with left:=m}=gvC xs (gvO at_ (Xs.drop k) {s with left:=l}))) (λi _=>np - (intOf i).toNat);case atStart=>
    refine⟨0,m, [], [],f,Nat.zero_le _,rfl,H2,gW,hdq Pu.any,hdq ?_⟩;rw[List.drop_zero];rcases gvO at_ Xs {s with left:=m}with⟨z|ys,t9⟩<;>rfl
   case round=>
    clear H2 gW b0;obtain⟨k,l,xs,ocs,fo,hk,rfl,H3,HG,Ge,HE⟩:=hrel;by_cases Hl:k < np
    ·have Kv:k < params.length:=by rw[<-Rr.out];exact Hl
     have Xt:k < Xs.length:=by rw[<-Pk.2];exact Kv
     have JM:k < vs.length:=by rw[Pk.1];exact Xt
     obtain⟨pb,po,rfl,Hh⟩:=(Ph _ _ H3.out).2.2 (by omega);have Lw:=List.drop_eq_getElem_cons Kv;obtain⟨⟨pn,pa⟩,Gx⟩:=nmq (params[k]);rw[<-Gx]at Lw;have Hm:=VaR.drop k Hh;rw[Lw]at Hm;obtain⟨⟨_,_,_,g0,g1⟩,_⟩:=Hm;simp only at g0 g1;obtain⟨v,ev⟩:∃v,vs[k]?=some v:=⟨_,List.getElem?_eq_getElem JM⟩;obtain⟨X,eX⟩:∃X,Xs[k]?=some X:=⟨_,List.getElem?_eq_getElem Xt⟩;have hdX:Xs.drop k=X::Xs.drop (k+1):=by
      rw[List.drop_eq_getElem_cons Xt]
      congr 1
      exact(List.getElem?_eq_some_iff.1 eX).2
     obtain⟨gX,capsX,rfl,qL,QG⟩:=HV k v X ev eX;have gY:=hdq (λW' t (h':RunAt C lo hi w W' ps oc nb t)=>QG W' oc nb t h');unfold Enters at qL;have GD:(k:Int) < (np:Int):=by omega
     have vY:(k:Int) < (nv:Int):=by rw[RH.out];omega
     have Zn:nv<=9223372036854775807:=by rw[RH.out];exact leq9 gS.1 gS.2
     have Lf:pn.size<=9223372036854775807:=by
      have:=LR _ (List.getElem_mem Kv);rw[<-Gx]at this;exact this
     have RJ:(params.map (·.nm.data.toList))[k]?=some pn.data.toList:=by
      rw[List.getElem?_map,List.getElem?_eq_getElem Kv,<-Gx];rfl
     obtain⟨w4,Fb⟩:=nmq (wr.alloc (.cells #[.string pn,.int .i64 pa] 77));have Hx:Fr NoT wr w4:=by rw[Fb];exact(Fr.refl _ _).alloc _
     have Ft:Bk w4 wr.heap.size 77 #[.string pn,.int .i64 pa]:=by rw[Fb];exact Bk.new _ _ _
     have H4:=hdq (KN _ _ _ H3.out Hx.drew);have GN:=hdq (show Fr (C.MutO oc) w1 w4.drew from Ge.trans Hx.drew.any);have Lr:=hdq (Ft.fr0 (Fr.refl NoT w4).drew);have Nm:=hdq Fb;have Vp:=hdq (show Fr NoT wr w4.drew from Hx.drew);have gZ:=hdq RJ;have Xu:=hdq hdX;have g8:=hdq ev;clear Fb Hx Ft RJ hdX eX ev QG Hh Lw Gx Kv Xt JM;go_wp2_with fail;rw[<-Nm.out];refine zad (CtS C p q 6 at_) (λ_=>true) (by kernel_rfl) (HS _ _ H4.out) (λhHeld=>?_);refine zaa 4 ?_;simp only[putsL];refine zai 0 hHeld ?_;simp only[putsL];refine zai 5 hHeld ?_;simp only[putsL];refine zaa 1 ?_;simp only[putsL];refine zaa 2 ?_;simp only[putsL];refine zai 3 hHeld ?_;simp only[putsL];refine zab 6 rfl (by kernel_rfl) (λKK hK=>?_);go_simp;go_at_call 110;rw[<-HR.out];refine(HC _ _ H4.out).mono ?_;rintro e w5 (⟨h0,rfl,rfl⟩|⟨m5,Sb,rfl,Rc,Hj⟩)
     ·have he:=HE.out;have h0:l=0:=h0;rw[Xu.out,h0]at he;rcases Ld.out with⟨z,hz,rfl⟩|⟨zc,t1,u,hz,_,_⟩
      ·rw[he]at hz;simp only[gvO,gvC]at hz;obtain⟨e1,rfl⟩:=Prod.mk.inj hz;cases e1;exact⟨rfl,rfl,by have:=H4.st;rw[h0]at this;exact this,Hs.trans GN.out⟩
      ·rw[he]at hz;simp only[gvO,gvC]at hz;cases (Prod.mk.inj hz).1
     have Sb:l=m5+1:=Sb;have M5:RunAt C lo hi w w5 ps oc nb {s with left:=m5}:=H4.next Hj.toO Rc (by show m5<=l;omega);have H5:=hdq M5;have Gl:=hdq (GN.trans Hj.toO);have Wj:=hdq Sb;have Wk:Fr (λb=>b=C.R) wr w5:=(Vp.any).trans Hj;have g9:=hdq Wk;have UQ:∀b,w1.heap.size<=b->¬b=C.R:=λb hb e=>by
      have h1:=(HO.out).rT;have h2:=H1.lat.size.2;omega
     have vZ:=hdq UQ;have Gb:=Lr.fr Hj (UQ _ (Ge.size));have JU:=hdq Gb;have k0:=Gb.cell 0;have P0:=(ND _ _ M5).cell 0;obtain⟨xB,rfl,_,_,YQ⟩:=(LG _ _ M5).2.2 (by have:=RH.out;omega);have F4:=YQ k _ g8.out;simp only[getsL]at k0 P0;clear Rc Hj M5 Sb hHeld Wk UQ Gb YQ;try dsimp only
     refine hK _ _ (λ_ _=>HS _ _ H5.out) ?_;clear hK KK;try simp only[putsL]
     refine zaf (by kernel_rfl) ?_;go_wp2_with fail;refine(gY _ _ H5.out).mono ?_;rintro e w6 ⟨Xv,Gt⟩;rcases Wl:X {s with left:=m5}with z6|x6
     ·rw[Wl]at Xv;obtain rfl:=Xv;have he:=HE.out;rw[Xu.out]at he;have qM:gvO at_ (X::Xs.drop (k+1)) {s with left:=l}=(.inl z6,{s with left:=m5}):=by
       simp only[gvO,Wj.out,Wl]
      rw[qM]at he;have Hu:=(KN _ _ _ H5.out Gt).st;rcases Ld.out with⟨z,hz,rfl⟩|⟨zc,t1,u,hz,_,_⟩
      ·rw[he]at hz;simp only[gvC]at hz;obtain⟨e1,rfl⟩:=Prod.mk.inj hz;cases e1;exact⟨rfl,rfl,Hu,Hs.trans (Gl.trans Gt.any)⟩
      ·rw[he]at hz;simp only[gvC]at hz;cases (Prod.mk.inj hz).1
     rw[Wl]at Xv;obtain⟨rfl,KB⟩:=Xv;have hg:=HG.out;rw[Wj.out]at hg;obtain⟨w8,v8,PF,ja⟩:=hg.step HO.out (lrq _) H1.lat.size.2 (g9.trans Gt.any) KB gZ.out Lf Q3.out KJ.out Ge.size;have h6:=KN _ _ _ H5.out (Gt.alloc (.cells #[.int .i64 x6] 3));have jb:=h6.off HO.out (Fr.grown (T:=λb=>b=w1.heap.size) PF (λg e _=>(Option.some.inj e).symm)) (λg e=>by
      have e:g=w1.heap.size:=e;refine⟨by have:=H1.lat.size.1;omega,by have:=H1.lat.size.2;omega,λhm=>?_,by omega⟩;have:=H1.st.ol g hm;omega)
     have G5:=(JU.fr0 (Gt.alloc (.cells #[.int .i64 x6] 3)));have k6:=G5.cell 0;simp only[getsL]at k6;have H8:=hdq jb;have U7:=hdq ja;have QY:=hdq (show Fr (C.MutO oc) w1 w8 from(Gl.trans (Gt.alloc (.cells #[.int .i64 x6] 3)).any).newer PF (lrq _));have Za:=hdq (show gvO at_ Xs {s with left:=m}=gvC (xs++ [x6]) (gvO at_ (Xs.drop (k+1)) {s with left:=m5}) by
      rw[HE.out,Xu.out];exact zn0 (s:={s with left:=l}) Wj.out Wl)
     clear jb ja h6 hg PF Gt KB Wl G5 k0 F4 P0 g0 g1 HE HG H3 Ge H4 GN H5 Gl Xu gZ g8 gY Lr JU Vp g9;go_wp2_with fail;go_roundw;case rel=>exact⟨k+1,m5,_,_,_,by omega,by go_num,H8,U7,QY,Za⟩
     case measure=>simp[intOf];omega
    ·have PC:k=np:=by omega
     have Fz:¬(k:Int) < (np:Int):=by omega
     have he:=HE.out;rw[List.drop_of_length_le (by rw[<-Pk.2,<-Rr.out];omega)]at he;simp only[gvO,gvC,List.append_nil]at he;obtain⟨zc,t1,u,hz,UR,rfl⟩:∃zc t1 u,gvO at_ Xs {s with left:=m}=(.inr zc,t1)/\DB {t1 with own:=zc} h u/\t={u with own:=t1.own}:=by
      rcases Ld.out with⟨z,hz,_⟩|hh
      ·rw[he]at hz;cases (Prod.mk.inj hz).1
      ·exact hh
     rw[he]at hz;obtain⟨e1,rfl⟩:=Prod.mk.inj hz;cases e1;have hg:=HG.out;obtain⟨nO,jc,jd⟩:=hg.map;have hlen:(params.map (·.nm.data.toList)).length =k:=by rw[List.length_map,<-Rr.out,PC]
     have Gu:BgSt C ocs {s with left:=l,own:=xs} wr:=H3.st.owns (by rw[hg.xl,hg.ol]) hg.bk hg.nd (λb hb=>by have:=hg.hi b hb;have:=H1.lat.size.2;omega) hg.x64;have je:RunAt C lo hi w wr (params.map (·.nm.data.toList)) ocs w1.heap.size {s with left:=l,own:=xs}:=by
      refine⟨H3.lat,λb hb=>?_,Gu,⟨⟨nO,fo,jc,jd,hg.glob,λnm j hj=>?_⟩,λnm j hj=>?_,?_⟩⟩
      ·have h1:=hg.hi b hb;have h2:=H1.lat.size.1;omega
      ·exact hg.par j nm (zfE hj) (by have:=zcA hj;omega)
      ·exact KJ _ (List.mem_of_getElem? (zfE hj))
      ·have h2:=H1.lat.size.2;rintro(hm|hm)
       ·exact zgw HO.out h2 hm
       ·exact(hg.hi _ hm).2.2 rfl
     have jf:=hdq (qJ _ _ _ _ _ _ je UR);have Fv:=PZ _ _ H3.out;have b1:=Fv.cell 1;simp only[getsL]at b1;have MM:=hdq (show ∀w9,BgSt C ocs u w9->Fr (C.MutO ocs) wr w9->BgSt C oc {u with own:=s.own} w9/\Fr (C.MutO oc) W w9 from λw9 Po Gk=>by
      have hJ:∀b,b < w1.heap.size->C.T<=b->¬C.MutO ocs b:=λb hb qN=>by
       rintro(hm|hm)
       ·exact zgw HO.out qN hm
       ·have:=hg.hi b hm;omega
      refine⟨Po.owns H1.st.len (λi b x hi hx=>?_) H1.st.nd H1.st.top H1.st.oi,Hs.trans ⟨Gk.os.trans Ge.os,Gk.tape.trans Ge.tape,Gk.output.trans Ge.output,leq9 Ge.size Gk.size,λi hi hn=>?_⟩⟩
      ·have hm:=List.mem_of_getElem? hi;exact(H3.st.own i b x hi hx).fr Gk (hJ b (H1.st.ol b hm) (H1.st.top b hm))
      ·exact(Gk.block i (ltq hi Ge.size) (λe=>e.elim (λhm=>hn (.inl hm)) λhm=>by have:=hg.hi i hm;omega)).trans (Ge.block i hi hn))
     clear hz he hg jc jd hlen Gu je Fv UR HE HG H3 Ge PC Hl;go_wp2_with fail;refine jf.mono ?_;rintro e w9 ⟨rfl,Po,Gk⟩;obtain⟨hA,hB⟩:=MM _ Po Gk;have HQ:=hdq (show DoQ C oc h {u with own:=s.own} W (zem h) w9 from⟨rfl,hA,hB⟩);clear Po Gk hA hB jf MM;cases h with
     |some h=>exact⟨rfl,HQ.out⟩
     |none=>
      unfold zem;go_wp2_with fail;go_end0;exact HQ.out
  ·intro x c9 kl y1 y2 w2 zt Wm JK Q6 Hh TX Hl F8 Zo ya;obtain⟨x',ex,rfl,US⟩:=WideMaps.string_of_keyOf (P:=Tryz.prog) Tryz.underlying9 Wm;obtain rfl:x=x':=by simpa using ex
   have Wn:=TV.kept F8 (by simp);obtain⟨w3,yb,TY,Sw⟩:=Wn.put Tryz.underlying75 (s:=x) (by unfold maxLen at US;omega) c9 (by have:=gV.out;unfold maxLen;omega);obtain⟨rfl,rfl⟩:DataW.held c9=y1/\([]:List MemPlace)=y2:=by simpa[zdw]using Q6
   have Jj:f x.data.toList=some c9:=by
    cases Gk:f x.data.toList with
    |none=>
     have:=(Xq x.data.toList).2.2 Gk (.held .nilFunc);rw[Hh]at this;cases GF:f x.data.toList with
     |none=>
      have h7:=(Xq x.data.toList).2.2 Gk (.held (.bool true));rw[Hh]at h7;rw[this]at h7;simp at h7
     |some u=>rw[Gk]at GF;cases GF
    |some u=>
     have:=(Xq x.data.toList).2.1 u Gk (.held .nilFunc);rw[Hh]at this;simp at this;rw[this]
   have TZ:CpR w3 nb (w1.heap.size+1) w1.heap.size N f D:=by
    refine⟨_,zt,TX.kept Sw (by simp;omega) (by simp),by omega,?_⟩;have h9:(λy=>if y=x.data.toList then some c9 else(if lf (.string y)then none else f y))=λt=>if(lf (.string t)&& !(Lit.string t).sameKey (.string x.data.toList))then none else f t:=by
     funext t
     by_cases e:t=x.data.toList
     ·subst e;rw[if_pos rfl,Jj];have:(Lit.string x.data.toList).sameKey (.string x.data.toList)=true:=by simp[Lit.sameKey]
      rw[this];simp
     ·rw[if_neg e];have:(Lit.string t).sameKey (.string x.data.toList)=false:=by simpa[Lit.sameKey]using e
      rw[this];simp
    rw[h9]at TY;obtain⟨D',q1,q2⟩:=TY;exact⟨D',q1.mono (by omega),q2⟩
   have Zp:=hdq TZ;have Zq:=hdq (show Fr NoT w1 w3 from(Pu.newer F8 (Nat.le_succ _)).newer Sw (lrq _));have qO:=hdq (show w3.rangeLeft nb (w1.heap.size+1) < wr.rangeLeft nb (w1.heap.size+1) by
    obtain⟨xC,xj,JY,_,_⟩:=TZ;rw[(TX.kept Sw (by simp;omega) (by simp)).left_eq,Xr.left_eq];exact Hl)
   clear TZ TY Wn TV Xr TX Jj Hh Q6 JK Wm Hl Zo Sw US F8;go_wp2_with fail;go_roundw;case rel=>exact⟨Zp,Zq⟩
   case measure=>exact qO.out
end
def xsV (n:Bn)(ps:List (List UInt8)):Exs->List (Bs->Ho ⊕ Int)
 | .nil => []
 | .cons k nm m a t r=>valH n ps k nm m t a::xsV n ps r
theorem zhb (n:Bn)(ps:List (List UInt8)):∀xs,(xsV n ps xs).length =xs.len
 | .nil =>rfl
 | .cons _ _ _ _ _ r=>by simp only[xsV,Exs.len,List.length_cons,zhb n ps r]
theorem zkF (n:Bn)(ps:List (List UInt8)):∀(i:Nat)(xs:Exs) {k nm m a t r},Exs.drop i xs= .cons k nm m a t r->(xsV n ps xs)[i]?=some (valH n ps k nm m t a)
 |0,.cons _ _ _ _ _ _,_,_,_,_,_,_,h=>by
  simp only[Exs.drop,Exs.cons.injEq]at h;obtain⟨rfl,rfl,rfl,rfl,rfl,_⟩:=h;rfl
 |0,.nil,_,_,_,_,_,_,h=>by simp[Exs.drop]at h
 |i+1,.nil,_,_,_,_,_,_,h=>by simp[Exs.drop]at h
 |i+1,.cons _ _ _ _ _ r,_,_,_,_,_,_,h=>by
  simp only[Exs.drop]at h;simpa[xsV]using zkF n ps i r h
def PVal (C:BgC)(ps:List (List UInt8))(Xs:List (Bs->Ho ⊕ Int)):RowP:=λi v lo hi w=>∃X,Xs[i]?=some X/\ValP C ps v X lo hi w
theorem PVal.st {C:BgC}{ps:List (List UInt8)}{Xs:List (Bs->Ho ⊕ Int)}:RwS C (PVal C ps Xs):=λi v lo hi w w' hl h=>by
 obtain⟨X,h1,h2⟩:=h;exact⟨X,h1,h2.later hl⟩
def PmS (g p b:Nat)(P:Option Addr)(v v0 v1 v2 v3 v4:Value)(W:World):Prop:=W.cell? ⟨g,0,none⟩=some v/\W.cell? ⟨p,0,none⟩=some (.pointer P)/\W.cell? ⟨b,0,none⟩=some v0/\W.cell? ⟨b,1,none⟩=some v1/\W.cell? ⟨b,2,none⟩=some v2/\W.cell? ⟨b,3,none⟩=some v3/\W.cell? ⟨b,4,none⟩=some v4
theorem zhQ:(Tryz.prog.info? 278).map (λi=>(i.zero,i.size,i.bytes))=some (some .nilFunc,1,8):=by kernel_rfl
abbrev stW (W:World)(C:BgC)(k:Int)(nm:ByteArray)(A2 A3 A4 A5:Option Addr)(l2 c2 l3 c3 l4 c4 l5 c5:Nat)(at_:Int):World:=(W.alloc (.cells #[.pointer (some ⟨C.P,0,none⟩)] 69)).alloc (.cells (bgStC k nm A2 A3 A4 A5 l2 c2 l3 c3 l4 c4 l5 c5 at_) 51)
def MkD (C:BgC)(ps:List (List UInt8))(D:DoR)(W:World)(e:Ending)(w':World):Prop:=∃val,e= .returned val/\Fr NoT W w'/\DoP C ps val D W.heap.size w'.heap.size w'
theorem Bk.newsK {w:World}{g:Nat}{t:TypeId}{u:Value}(h:Bk w g t #[u]):∀j x,([u]:List Value)[j]?=some x->w.cell? ((⟨g,0,none⟩:Addr).add j)=some x:=World.news_of_block (cs:= #[u]) (fr:=(0,0)) (t:=t) h
theorem zfF (C:BgC)(ps:List (List UInt8))(ho:C.Ok)(k:Int)(nm:ByteArray)(args:Exs)(at_:Int)(hX:∀i k0 n0 m0 a0 t0 r0,Exs.drop i args= .cons k0 n0 m0 a0 t0 r0->ExpC C ps k0 n0 m0 a0 t0)(D:DoR)(W:World)(S:Nat->Prop)(Z:Prop)(A2 A3 A4 A5:Option Addr)(c2 l3 c3 l4 c4 l5 c5:Nat)(hT:C.T<=W.heap.size)(Gy:PgAt C W)(hS:∀x,S x->x < C.B)(hx:SlR (λb o=>ExR W S Z args b o) args.len 64 A2 c2)
  (hD:∀w' x A c vs,Fr NoT W w'->Bx W.heap.size w'.heap.size w' W.heap.size 69 #[.pointer (some ⟨C.P,0,none⟩)]->Bx W.heap.size w'.heap.size w' (W.heap.size+1) 51 (bgStC k nm A2 A3 A4 A5 args.len c2 l3 c3 l4 c4 l5 c5 at_)->Bx W.heap.size w'.heap.size w' x 276 #[.slice A args.len c]->RowF W.heap.size w'.heap.size w' A c vs->vs.length=args.len->
   (∀(i:Nat) u X,vs[i]?=some u->(xsV C.n ps args)[i]?=some X->ValP C ps u X W.heap.size w'.heap.size w')->DoP C ps (.func (.func 176) #[] #[.pointer (some ⟨W.heap.size,0,none⟩),.pointer (some ⟨W.heap.size+1,0,none⟩),.pointer (some ⟨x,0,none⟩)]) D W.heap.size w'.heap.size w'):
  Calls Tryz.prog 105 #[.pointer (some ⟨C.P,0,none⟩),.agg (bgStC k nm A2 A3 A4 A5 args.len c2 l3 c3 l4 c4 l5 c5 at_)] W (MkD C ps D W):=by
 obtain⟨i1,G0,Hy,Fc,Gw⟩:=info_parts zhQ;obtain⟨n,hn⟩:=nmq args.len;have Jp:n*64<=140737488355328:=by rw[hn];exact hx.2.1.2
 have Fa:C.B<=W.heap.size:=by have h1:=ho.br;have h2:=ho.rT;omega
 have Gq:∀w',Fr NoT W w'->PgAt C w':=λw' hf=>Gy.later ho (Later.of0 (lo:=0) (hi:=0) hf (Nat.zero_le _) hT);have Fe:∀w',Fr NoT W w'->SameS S W w':=λw' hf=>hf.same λb hb=>⟨ltq (hS b hb) Fa,id⟩;obtain⟨w2,HJ⟩:=nmq (stW W C k nm A2 A3 A4 A5 n c2 l3 c3 l4 c4 l5 c5 at_);have He:Fr NoT W w2:=by rw[HJ];exact((Fr.refl _ _).alloc _).alloc _
 have Wo:Bk w2 W.heap.size 69 #[.pointer (some ⟨C.P,0,none⟩)]:=by rw[HJ];exact(Bk.new _ _ _).alloc _
 have T0:Bk w2 (W.heap.size+1) 51 (bgStC k nm A2 A3 A4 A5 n c2 l3 c3 l4 c4 l5 c5 at_):=by rw[HJ];exact Bk.new_at _ _ _ (by simp)
 have Ny:w2.heap.size=W.heap.size+2:=by rw[HJ];simp
 obtain⟨w3,GL⟩:=nmq (w2.alloc (.cells #[.slice none 0 0] 276));have JP:MkL C w2 w3 w2.heap.size 276 278 (.slice none 0 0) [] (PVal C ps (xsV C.n ps args)):=MkL.zero (by rw[GL];exact(Fr.refl _ _).alloc _) (lrq _) (by rw[GL];exact Bk.new _ _ _);have q2:=(T0.fr0 JP.fr).cell 2;simp only[bgStC,List.getElem?_toArray,List.getElem?_cons_succ,List.getElem?_cons_zero]at q2;have HX:=hdq hx;have Wp:=hdq hX;have Sc:=hdq Gq;have ME:=hdq Fe;have HS:=hdq hS;have HD:=hdq hD;have HT:=hdq hT;have T1:=hdq Wo;have T3:=hdq T0;have Hv:=hdq He;have Pl:=hdq JP;have HN:=hdq hn;have HI:=hdq (aiq G0 (aiq Hy (aiq Fc Gw)));have Q7:=hdq Fa;unfold stW at HJ;rw[HJ]at GL;have L0:=hdq GL;have LR:=hdq Ny;rw[Ny]at Pl;have Zr:=hdq (show W.heap.size+2 < w3.heap.size by have:=JP.bk.lt;omega);rw[<-hn];clear hx hX Gq Fe hS hD hT Wo T0 He JP hn G0 Hy Fc Gw Fa GL Ny HJ Gy;have J3:n<=9223372036854775807:=by omega
 go_enter Tryz.func105,Tryz.ntmps105;go_wp2_with fail;rw[<-L0.out];go_wp2_with fail;go_loopw [11] (λi wr=>∃(k':Nat)(v:Value)(vs:List Value),k'<=n/\i= .int .i64 k'/\Hid (MkL C w2 wr (W.heap.size+2) 276 278 v vs (PVal C ps (xsV C.n ps args)))/\vs.length=k') (λi _=>n - (intOf i).toNat);case atStart=>exact⟨0,_,_,Nat.zero_le _,rfl,Pl,rfl⟩
 case round=>
  clear q2 Pl;obtain⟨k',v,vs,hk,rfl,HM,Jl⟩:=hrel;have LV:=hdq Jl;by_cases Hl:k' < n
  ·have Qw:k' < args.len:=by rw[<-HN.out];exact Hl
   obtain⟨b0,o0,rfl,Hh⟩:=HX.2.2 (by omega);obtain⟨k0,n0,m0,a0,t0,r0,LN⟩:=Exs.drop_cons Qw;have JN:=Hv.trans HM.fr;have Hm:=ExR.drop k' (ExR.keep (ME wr JN) Hh);rw[LN]at Hm;obtain⟨⟨Gh,_,_,GK,_,e0,e1,e2,e4⟩,⟨A1,c1,e3,s1⟩,_⟩:=Hm;obtain⟨l1,Fo⟩:=nmq a0.len;rw[<-Fo]at e3;have Sz:=zkF C.n ps k' args LN;have Hw:=Wp k' _ _ _ _ _ _ LN;have GD:(k':Int) < (n:Int):=by omega
   have Ll:b0 < wr.heap.size:=ltq (ltq (HS _ Gh) Q7.out) JN.size;obtain⟨w4,Fb⟩:=nmq (wr.alloc (.cells #[.int .u8 k0,.string n0,.int .i64 m0,.slice A1 l1 c1,.int .i64 t0] 175));have Hx:Fr NoT wr w4:=by rw[Fb];exact(Fr.refl _ _).alloc _
   have Ft:Bk w4 wr.heap.size 175 #[.int .u8 k0,.string n0,.int .i64 m0,.slice A1 l1 c1,.int .i64 t0]:=by rw[Fb];exact Bk.new _ _ _
   have F9:C.T<=w2.heap.size:=leq9 HT.out Hv.size;have GJ:=hdq F9;have Rb:=HM.fr0 PVal.st F9 Hx.drew;have J5:=hdq (show ∀w',Fr NoT w4 w'->PmS (W.heap.size+2) W.heap.size wr.heap.size (some ⟨C.P,0,none⟩) v (.int .u8 k0) (.string n0) (.int .i64 m0) (.slice A1 l1 c1) (.int .i64 t0) w' from λw' hf=>
    ⟨((HM.bk.fr0 Hx).fr0 hf).cell 0,(((T1.fr0 HM.fr).fr0 Hx).fr0 hf).cell 0,(Ft.fr0 hf).cell 0,(Ft.fr0 hf).cell 1,(Ft.fr0 hf).cell 2,(Ft.fr0 hf).cell 3,(Ft.fr0 hf).cell 4⟩)
   have P7:=hdq (show ∀w',Fr NoT w4 w'->_ from λw' hf=>Hw w' S Z A1 c1 (leq9 HT.out (JN.trans (Hx.trans hf)).size) (Sc w' (JN.trans (Hx.trans hf))) HS.out GK (s1.imp λ_ _ hx=>ExR.keep ((Hx.trans hf).same λb hb=>⟨ltq (ltq (HS b hb) Q7.out) JN.size,id⟩) hx));rw[<-Fo]at P7;have SA:=hdq Rb;have Nm:=hdq Fb;have Pv:=hdq Sz;clear Hh JN GK s1 Fo Sz Hw Fb Hx Ft Rb LN Qw F9 HM;go_wp2_with fail;rw[<-Nm.out];refine zad (PmS (W.heap.size+2) W.heap.size wr.heap.size (some ⟨C.P,0,none⟩) v (.int .u8 k0) (.string n0) (.int .i64 m0) (.slice A1 l1 c1) (.int .i64 t0)) (λi=>decide (i < 5)) (by kernel_rfl) (J5 _ (Fr.refl _ _).drew) (λhHeld=>?_);refine zai 0 hHeld ?_;simp only[putsL];refine zai 1 hHeld ?_;simp only[putsL];refine zai 2 hHeld ?_;simp only[putsL];refine zab 3 rfl (by kernel_rfl) (λKK hK=>?_);go_simp;go_at_call 175;refine(P7 _ (Fr.refl NoT w4).drew).mono ?_;rintro _ w5 ⟨u,rfl,Hj,F4⟩;obtain⟨gg,cps,rfl⟩:=F4.func;have Gl:=hdq Hj;have TE:=hdq F4;have Nz:=hdq (J5 _ ((Fr.refl NoT w4).drew.trans Hj));clear Hj F4;try dsimp only
   refine hK _ _ (λ_ _=>Nz.out) ?_;clear hK KK;try simp only[putsL]
   refine zab 4 rfl (by kernel_rfl) (λKK hK=>?_);go_simp;obtain⟨w6,Fx⟩:=nmq (w5.alloc (.cells #[.func (.func gg) #[] cps] 278));rw[<-Fx];have Gt:Fr NoT w5 w6:=by rw[Fx];exact(Fr.refl _ _).alloc _
   have G5:Bk w6 w5.heap.size 278 #[.func (.func gg) #[] cps]:=by rw[Fx];exact Bk.new _ _ _
   have Mn:w6.heap.size=w5.heap.size+1:=by rw[Fx];simp
   have RK:=hdq (J5 _ (((Fr.refl NoT w4).drew.trans Gl.out).trans Gt));have MV:=(SA.fr0 PVal.st GJ.out Gl.out).fr0 PVal.st GJ.out Gt;have Kk:=hdq MV;have JL:=hdq G5;have Q4:=hdq Fx;have QH:=hdq Mn;clear Fx Gt G5 Mn MV;try dsimp only
   refine hK _ _ (λ_ _=>RK.out) ?_;clear hK KK;try simp only[putsL]
   refine zab 5 rfl (by kernel_rfl) (λKK hK=>?_);refine step_append_lies _ (by rfl) _ _ _ (by rfl) (W.heap.size+2+1) 278 i1 .nilFunc 1 8 Tryz.underlying276 HI.1 HI.2.1 HI.2.2.1 HI.2.2.2 rfl (by decide) v vs.length vs (by rfl) Kk.row
    ⟨w5.heap.size,0,none⟩ 1 1 [.func (.func gg) #[] cps] (by rfl) (by rfl) JL.newsK (by simp[Value.oneCell']) (by omega) ?c63 ?cby ?cba (w5.heap.size+1) QH.out ?_
   case c63=>have:=LV.out;unfold maxLen;omega
   case cby=>have:=LV.out;omega
   case cba=>have h1:=Kk.bk.lt;omega
   intro zK cap w7 Hb Hd GG Jd;have FH:=Hd;rw[Q4.out]at FH;have Gu:=SA.step PVal.st GJ.out Gl.out ⟨_,by rw[LV.out];exact Pv.out,TE.out⟩ Hb FH (by
    rcases GG with e|e
    ·exact .inl e.symm
    ·exact .inr (by rw[e];rfl))
   have FE:some (W.heap.size+2)≠v.ownBlock:=λe=>by have:=Kk.row.lt _ e.symm;omega
   have f7:=(Hd.frozen_far ⟨W.heap.size+2,0,none⟩ Kk.bk.lt FE).trans (Kk.bk.frozen 0);have c7:=(Hd.cell_far ⟨W.heap.size+2,0,none⟩ Kk.bk.lt FE).trans (Kk.bk.cell 0);have l7:W.heap.size+2 < w7.heap.size:=ltq Kk.bk.lt Hd.size;have Gi:=hdq Gu;simp only[getsL]at c7;clear Hb Hd FH GG Gu FE hHeld;try dsimp only
   refine hK _ _ (λh=>absurd h (by decide)) ?_;clear hK KK;try simp only[putsL]
   refine zab 6 rfl (by kernel_rfl) (λKK hK=>?_);go_simp;refine hK _ _ (λh=>absurd h (by decide)) ?_;clear hK KK;try simp only[putsL]
   refine zaf (by kernel_rfl) ?_;clear c7 f7 l7 e0 e1 e2 e3 e4;go_wp2_with fail;go_roundw;case rel=>exact⟨k'+1,_,_,by omega,by go_num,hdq (by have h9:=Gi.out;rw[LV.out]at h9;exact h9),by rw[List.length_append,LV.out];rfl⟩
   case measure=>simp[intOf];omega
  ·have Fz:¬(k':Int) < (n:Int):=by omega
   obtain⟨A,c,rfl,Hz⟩:=HM.rowF;have JN:=Hv.trans HM.fr;have F7:vs.length=n:=by omega
   have h2:=Hv.size;have hr:=HD wr (W.heap.size+2) A c vs JN ⟨T1.fr0 HM.fr,lrq _,(T1.fr0 HM.fr).lt⟩ (by rw[<-HN.out];exact⟨T3.fr0 HM.fr,Nat.le_succ _,(T3.fr0 HM.fr).lt⟩) (by rw[<-HN.out,<-F7];exact⟨HM.bk,by omega,HM.bk.lt⟩) ⟨Hz.1,Hz.2.1,λhp=>by
     obtain⟨b,e,g1,g2,g3⟩:=Hz.2.2 hp;exact⟨b,e,leq9 h2 g1,g2,g3⟩⟩ (by rw[F7];exact HN.out) (λi u X hu hX=>by
     obtain⟨lo,hi,⟨X',e,hv⟩,g1,g2,_⟩:=HM.vals i u hu;rw[hX]at e;obtain rfl:=Option.some.inj e;exact hv.wide (leq9 h2 g1) g2)
   have HR:=hdq (show MkD C ps D W _ wr from⟨_,rfl,JN,hr⟩);clear hr Hz JN HM F7 h2;go_wp2_with fail;go_ret;exact HR.out
