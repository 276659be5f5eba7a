/- big. -/
import Derived.Test.YtfomomaomggpbaaGreatDoorJgBgPut2
set_option linter.all false
namespace Go.Proofs.YtfomomaomggpbaaGreatDoor
open Go.RowKit Go.Shelf Go.Maps
def gvO (at_:Int):List (Bs->Ho ⊕ Int)->Bs->(Ho ⊕ List Int)×Bs
 | [],s=>(.inr [],s)
 |X::r,s=>match s.left with
  |0=>(.inl ⟨2,0,at_⟩,s)
  |m+1=>match X {s with left:=m}with
   | .inl h=>(.inl h,{s with left:=m})
   | .inr x=>match gvO at_ r {s with left:=m}with
    |(.inl h,t)=>(.inl h,t)
    |(.inr xs,t)=>(.inr (x::xs),t)
def gvC (xs:List Int):(Ho ⊕ List Int)×Bs->(Ho ⊕ List Int)×Bs
 |(.inl h,t)=>(.inl h,t)
 |(.inr ys,t)=>(.inr (xs++ys),t)
def calD (at_:Int)(Xs:List (Bs->Ho ⊕ Int))(DB:DoR)(s:Bs)(h:Option Ho)(t:Bs):Prop:=
 (s.left=0/\h=some ⟨2,0,at_⟩/\t=s)\/∃m,s.left=m+1/\((∃z,gvO at_ Xs {s with left:=m}=(.inl z,t)/\h=some z)\/∃xs t1 u,gvO at_ Xs {s with left:=m}=(.inr xs,t1)/\DB {t1 with own:=xs} h u/\t={u with own:=t1.own})
theorem Fr.newer {T:Nat->Prop}{W w w':World}{g:Nat}(h:Fr T W w)(hg:w.grownBy w' (some g))(hn:W.heap.size<=g):Fr T W w':=
 ⟨hg.os.trans h.os,hg.tape.trans h.tape,hg.output.trans h.output,aK h.size hg.size,λi hi ht=>(hg.block i (aM hi h.size) (λe=>by have:=Option.some.inj e;omega)).trans (h.block i hi ht)⟩
section
variable {C:BgC} {ps:List (List UInt8)} {w:World} {lo hi q:Nat} {k:Int} {nm:ByteArray} {at_:Int}
theorem RunAt.off {W W':World}{oc:List Nat}{nb:Nat}{s:Bs}(h:RunAt C lo hi w W ps oc nb s)(ho:C.Ok){T:Nat->Prop}(hf:Fr T W W')(hT:∀g,T g->hi<=g/\C.T<=g/\g∉oc/\g≠nb):RunAt C lo hi w W' ps oc nb s:=by
 have h1:=ho.rT;have h2:=ho.vT;have h3:=ho.br;refine⟨⟨⟨aK h.lat.size.1 hf.size,aK h.lat.size.2 hf.size⟩,λi hi hn=>(hf.block i (by have:=h.lat.size;omega) λht=>?_).trans (h.lat.block i hi hn)⟩,h.new,h.st.fr ho hf ?_ ?_ (λb hb ht=>?_) (λb hb ht=>?_) (λb hb ht=>(hT b ht).2.2.1 hb) λb hb ht=>?_,?_⟩
 ·have:=hT i ht;omega
 ·intro ht;have:=(hT _ ht).2.1;omega
 ·intro ht;have:=(hT _ ht).2.1;omega
 ·have:=(hT _ ht).2.1;have:=ho.bT b hb;omega
 ·have:=(hT _ ht).2.1;have:=(ho.row _ b hb).1;omega
 ·have:=(hT _ ht).2.1;omega
 ·obtain⟨N,f,g1,g2,g3⟩:=h.sc.map;exact⟨⟨N,f,g1.fr hf λht=>(hT _ ht).2.2.2 rfl,g2,g3⟩,h.sc.ap,h.sc.out⟩
def CpR (w:World)(nb r own N:Nat)(f:List UInt8->Option Value)(D:DataW Value):Prop:=∃lf cnt,w.ranges Tryz.prog 9 zdI nb r N D lf cnt/\cnt<=N/\MpV w own (N - cnt) (λt=>if lf (.string t)then none else f t)
theorem zpp {at_:Int}{X:Bs->Ho ⊕ Int}{r:List (Bs->Ho ⊕ Int)}{s:Bs}{m:Nat}{x:Int}{xs:List Int}(hm:s.left=m+1)(hx:X {s with left:=m}= .inr x):gvC xs (gvO at_ (X::r) s)=gvC (xs++ [x]) (gvO at_ r {s with left:=m}):=by
 simp only[gvO,hm,hx];rcases gvO at_ r {s with left:=m}with⟨h|ys,t⟩
 ·rfl
 ·simp[gvC]
theorem zf9:∀ {l:List (List UInt8)} {t:List UInt8} {k:Nat},posI l t=some k->l[k]?=some t
 | [],_,_,h=>by simp[posI]at h
 |x::r,t,k,h=>by
  unfold posI at h;by_cases e:x=t
  ·rw[if_pos e]at h;obtain rfl:=Option.some.inj h;simp[e]
  ·rw[if_neg e]at h;cases e2:posI r t with
   |none=>rw[e2]at h;simp at h
   |some j=>
    rw[e2]at h;simp at h;subst h;simpa using zf9 e2
structure GvR (C:BgC)(W wr:World)(names:List (List UInt8))(own k l:Nat)(xs:List Int)(ocs:List Nat)(fo:List UInt8->Option Value):Prop where
 map:∃nO,MpV wr own nO fo/\nO+l<=1000000
 glob:∀nm i,posI C.n.vars nm=some i->fo nm=some (.pointer (some ⟨C.V,i,none⟩))
 par:∀(j:Nat) nm,names[j]?=some nm->j < k->∃b,ocs[j]?=some b/\fo nm=some (.pointer (some ⟨b,0,none⟩))
 xl:xs.length=k
 ol:ocs.length=k
 bk:∀(j b:Nat)(x:Int),ocs[j]?=some b->xs[j]?=some x->Bk wr b 3 #[.int .i64 x]
 nd:ocs.Nodup
 hi:∀b∈ocs,W.heap.size<=b/\b < wr.heap.size/\b≠own
 x64:∀x∈xs,is64 x
theorem GvR.step {W1 wr w6:World}{names:List (List UInt8)}{own k' m5:Nat}{xs:List Int}{ocs:List Nat}{fo:List UInt8->Option Value}(h:GvR C W1 wr names own k' (m5+1) xs ocs fo)(ho:C.Ok)(h1:W1.heap.size<=own)(hT:C.T<=W1.heap.size)(hf:Fr (λb=>b=C.R) wr w6){x:Int}(hx:is64 x){pn:ByteArray}(hk:names[k']?=some pn.data.toList)(W4:pn.size<=9223372036854775807)(Li:names.Nodup)(G6:∀nm∈names,posI C.n.vars nm=none)(M4:W1.heap.size<=wr.heap.size):
  ∃w8,(Instr.mapUpdate 75 (.map (some own)) (.string pn) (.pointer (some ⟨w6.heap.size,0,none⟩))).run Tryz.prog (w6.alloc (.cells #[.int .i64 x] 3))= .ok () w8/\(w6.alloc (.cells #[.int .i64 x] 3)).grownBy w8 (some own)/\
   GvR C W1 w8 names own (k'+1) m5 (xs++ [x]) (ocs++ [w6.heap.size]) (λy=>if y=pn.data.toList then some (.pointer (some ⟨w6.heap.size,0,none⟩))else fo y):=by
 obtain⟨nO,hm,hn⟩:=h.map;have Kj:=hm.lt;have zZ:=ho.rT;have gn:own≠C.R:=by omega
 have Hs:Fr (λb=>b=C.R) wr (w6.alloc (.cells #[.int .i64 x] 3)):=hf.alloc _;have Yo:=hm.fr Hs gn;have Hx:=hf.size;obtain⟨w8,hu,yo,hg⟩:=Yo.put Tryz.underlying75 (s:=pn) W4 (.pointer (some ⟨w6.heap.size,0,none⟩)) (by unfold maxLen;omega);have Wc:w6.heap.size+1<=w8.heap.size:=by have:=hg.size;simpa using this
 refine⟨w8,hu,hg,⟨⟨_,yo,by omega⟩,λnm i hi=>?_,λj nm hj Q2=>?_,by simp[h.xl],by simp[h.ol],λj b y hb hy=>?_,?_,λb hb=>?_,λy hy=>?_⟩⟩
 ·have Gh:nm≠pn.data.toList:=λe=>by
   have:=G6 _ (List.mem_of_getElem? hk);rw[<-e,hi]at this;cases this
  simp only[if_neg Gh];exact h.glob nm i hi
 ·by_cases e:j=k'
  ·subst e;rw[hk]at hj;obtain rfl:=Option.some.inj hj;refine⟨w6.heap.size,?_,by simp⟩;rw[List.getElem?_append_right (by rw[h.ol];exact aL _),h.ol];simp
  ·obtain⟨b,hb,Yp⟩:=h.par j nm hj (by omega);have Gh:nm≠pn.data.toList:=λe2=>by
    rw[e2]at hj;obtain⟨l1,g1⟩:=List.getElem?_eq_some_iff.1 hj;obtain⟨l2,g2⟩:=List.getElem?_eq_some_iff.1 hk;exact e ((List.getElem_inj Li).1 (g1.trans g2.symm))
   refine⟨b,?_,by simp only[if_neg Gh];exact Yp⟩;rw[List.getElem?_append_left (List.getElem?_eq_some_iff.1 hb).1];exact hb
 ·by_cases hj:j < k'
  ·rw[List.getElem?_append_left (by rw[h.ol];exact hj)]at hb;rw[List.getElem?_append_left (by rw[h.xl];exact hj)]at hy;have yp:=h.hi b (List.mem_of_getElem? hb);have Hr:=(h.bk j b y hb hy).fr Hs (λe=>by have e:b=C.R:=e;omega);exact(hg.block b Hr.lt (λe=>yp.2.2 (Option.some.inj e))).trans Hr
  ·rw[List.getElem?_append_right (by rw[h.ol];omega),h.ol]at hb;rw[List.getElem?_append_right (by rw[h.xl];omega),h.xl]at hy;have yq:j - k'=0:=by
    have:=(List.getElem?_eq_some_iff.1 hb).1;simp at this;omega
   rw[yq]at hb hy;simp at hb hy;subst hb hy;have Hr:=Bk.new w6 3 #[.int .i64 x];exact(hg.block _ Hr.lt (λe=>by have:=Option.some.inj e;omega)).trans Hr
 ·rw[List.nodup_append];refine⟨h.nd,by simp,λa ha b hb e=>?_⟩;simp at hb;have:=h.hi a ha;omega
 ·rcases List.mem_append.1 hb with hb|hb
  ·have:=h.hi b hb;exact⟨this.1,by omega,this.2.2⟩
  ·simp at hb;subst hb;exact⟨by omega,by omega,by omega⟩
 ·rcases List.mem_append.1 hy with hy|hy
  ·exact h.x64 y hy
  ·simp at hy;rw[hy];exact hx
set_option maxRecDepth 100000 in
set_option maxHeartbeats 3200000 in
theorem zqh {p x3 x4:Nat}{ty:TypeId}{cs:Array Value}{Ap A:Option Addr}{cp c:Nat}{vb:Value}{vs:List Value}{Xs:List (Bs->Ho ⊕ Int)}{DB:DoR}{params:List Va}{S:Nat->Prop}{Z:Prop}(ho:C.Ok)(hT:C.T<=lo)(GE:PgAt C w)(hp:Bx lo hi w p 69 #[.pointer (some ⟨C.P,0,none⟩)])(hq:Bx lo hi w q ty cs)(h6:cs[6]?=some (.int .i64 at_))
  (h3:Bx lo hi w x3 83 #[.slice Ap params.length cp,vb]) (h4:Bx lo hi w x4 276 #[.slice A vs.length c]) (Hi:RowF lo hi w A c vs) (hlen:vs.length=Xs.length) (M1:params.length=Xs.length) (hv:∀(i:Nat) v X,vs[i]?=some v->Xs[i]?=some X->ValP C ps v X lo hi w)
  (ND:DoP C (params.map (·.nm.data.toList)) vb DB lo hi w) (L4:SlR (VaR w S Z params) params.length 24 Ap cp) (hS:∀b,S b->b < C.B) (Hx:∀x∈params,x.nm.size<=9223372036854775807) (Li:(params.map (·.nm.data.toList)).Nodup) (G6:∀nm∈params.map (·.nm.data.toList),posI C.n.vars nm=none):
  DoP C ps (.func (.func 183) #[] #[.pointer (some ⟨p,0,none⟩),.pointer (some ⟨q,0,none⟩),.pointer (some ⟨x3,0,none⟩),.pointer (some ⟨x4,0,none⟩)]) (calD at_ Xs DB) lo hi w:=by
 obtain⟨gB,capsB,rfl,yr,Rc⟩:=ND;refine⟨_,_,rfl,enters_of Tryz.func183 (by kernel_rfl) rfl,λW oc nb s h t M7 hD=>?_⟩;have hW:=M7.fr0 ho (Fr.refl NoT W).drew;have GW:=run_makeMap (P:=Tryz.prog);have HS:=aA (λW' t (h':RunAt C lo hi w W' ps oc nb t)=>h'.cts ho hT GE hp hq (i:=6) h6);have HC:=aA (λW' t (h':RunAt C lo hi w W' ps oc nb t)=>zbU h'.st ho at_);have La:=aA (λW' W2 t (h':RunAt C lo hi w W' ps oc nb t) (hf:Fr NoT W' W2)=>h'.fr0 ho hf);have FP:=aA (λW' t (h':RunAt C lo hi w W' ps oc nb t)=>Hi.run ho hT h');have QB:=aA (λW' t (h':RunAt C lo hi w W' ps oc nb t)=>h'.bx ho hT h3);have NY:=aA (λW' t (h':RunAt C lo hi w W' ps oc nb t)=>h'.bx ho hT h4);have HV:=aA hv;have yt:=aA Rc;have HO:=aA ho;have Py:=aA (λW' t (h':RunAt C lo hi w W' ps oc nb t)=>(show SlR (VaR W' S Z params) params.length 24 Ap cp from L4.imp λ_ _ hx=>VaR.keep (λpp Vy=>by
  have hb:=hS _ Vy;have h1:=ho.br;have h2:=ho.rT;have h3:=ho.bl;have Jt:¬C.Mut pp.block:=by
   rintro(e|e|e|e)
   ·omega
   ·have:=h'.st.sto.vl;omega
   ·obtain⟨i,hi⟩:=List.mem_iff_getElem?.1 e;have Nm:i < t.ls.length:=by rw[<-h'.st.sto.len];exact(List.getElem?_eq_some_iff.1 hi).1
    have:=(h'.st.sto.each i _ _ hi (List.getElem?_eq_getElem Nm)).1;omega
   ·have:=ho.bm;omega
  have W5:=h'.lat.block pp.block (.inl (by omega)) Jt;exact⟨World.cell?_of_block W5,World.frozen?_of_block W5⟩) hx))
 have MB:=aA Hx;have RC:=aA Li;have K5:=aA G6;have PE:=aA (aG hlen M1);have go:params.length<=9223372036854775807:=aK L4.1 L4.2.1.1;have Nv:vs.length<=c/\c<=9223372036854775807:=⟨Hi.1,Hi.2.1⟩;have HW:=aA hW;unfold Enters at yr;show Calls Tryz.prog 183 #[.map (some nb),.pointer (some ⟨p,0,none⟩),.pointer (some ⟨q,0,none⟩),.pointer (some ⟨x3,0,none⟩),.pointer (some ⟨x4,0,none⟩)] W (DoQ C oc h t W)
 have HD:=aA hD;obtain⟨R,hR⟩:=aF C.R;rw[<-hR]at HC;have HR:=aA hR;have ke:=aA Nv;obtain⟨np,Uy⟩:=aF params.length;obtain⟨nv,Uz⟩:=aF vs.length;rw[<-Uy]at go QB;rw[<-Uz]at NY;have Si:=aA Uy;have Sq:=aA Uz;clear Rc hq hp h3 h4 hT hW M7 GE hD ho h6 hR Hi hlen M1 hv L4 hS Hx Li G6 Nv Uy Uz;go_enter Tryz.func183,Tryz.ntmps183;go_wp2_with fail;refine zad (CtS C p q 6 at_) (λ_=>true) (by kernel_rfl) (HS _ _ HW.out) (λaC=>?_);refine zaa 4 ?_;simp only[aB];refine zac 0 aC ?_;simp only[aB];refine zac 5 aC ?_;simp only[aB];refine zaa 1 ?_;simp only[aB];refine zaa 2 ?_;simp only[aB];refine zac 3 aC ?_;simp only[aB];refine zab 6 rfl (by kernel_rfl) (λKK hK=>?_);go_simp;go_at_call 110;rw[<-HR.out];refine(HC _ _ HW.out).mono ?_;rintro e w1 (⟨h0,rfl,rfl⟩|⟨m,hm,rfl,GV,Hd⟩)
 ·rcases HD.out with⟨_,rfl,rfl⟩|⟨m,hm,_⟩
  ·exact⟨rfl,rfl,HW.st,aH.drew⟩
  ·omega
 have Jg:RunAt C lo hi w w1 ps oc nb {s with left:=m}:=HW.next Hd.toO GV (by show m<=s.left;omega);have hd:((∃z,gvO at_ Xs {s with left:=m}=(.inl z,t)/\h=some z)\/∃xs t1 u,gvO at_ Xs {s with left:=m}=(.inr xs,t1)/\DB {t1 with own:=xs} h u/\t={u with own:=t1.own}):=by
  rcases HD.out with⟨h0,_,_⟩|⟨m',WD,hl⟩
  ·omega
  ·obtain rfl:m=m':=by omega
   exact hl
 obtain⟨N,f,RG,kf,Te,W6⟩:=Jg.sc.map;obtain⟨D,Ha,kg⟩:=RG;have H1:=aA Jg;have LD:=aA hd;have Yq:=aA kg;have Vv:=aA Te;have kh:=aA (show N+m<=1000000 from kf);have z8:=aA Jg.sc.ap;have Hl:=aA (show Fr (C.MutO oc) W w1 from(aH.drew.trans Hd).toO);have Gq:=Ha.size_le;have Kj:=Ha.lt;clear GV Hd Jg hm aC HD HW hd kg Te W6 kf;try dsimp only
 refine hK _ _ (λ_ _=>HS _ _ H1.out) ?_;clear hK KK;try simp only[aB]
 refine zae (by kernel_rfl) ?_;have e1:(w1.alloc (.map #[] 0)).heap.size =w1.heap.size+1:=by simp
 go_wp2_with (first
  |(at_range;refine wpList_range_own _ rfl _ 75 rfl 9 78 strKey Tryz.underlying75 _ nb N D rfl (Ha.alloc _) ?_;intro w0 UA Sr U6)
  |go_in)
 go_frame
 rw[e1]at UA U6 ⊢;have W7:CpR w0 nb (w1.heap.size+1) w1.heap.size N f D:=by
  refine⟨_,_,UA,Gq,?_⟩;have h1:MpV w0 w1.heap.size 0 λ_=>none:=(MpV.made w1).kept Sr (by simp);have h2:(λt=>if Maps.has D (.string t)then none else f t)=λ_=>(none:Option Value):=by
   funext t
   rw[(Yq t).1];cases f t<;>simp
  rw[h2];obtain⟨D',q1,q2⟩:=h1;exact⟨D',q1.mono (Nat.zero_le _),q2⟩
 have Uk:=aA W7;have PU:=aA (show Fr NoT w1 w0 from((Fr.refl NoT w1).alloc (.map #[] 0)).trans (Fr.grown Sr (λg e=>by simp at e)));have Pf:=aA Gq;clear W7 UA Sr U6 Ha Gq e1;go_loopw [7] (λ_ wr=>Hid (CpR wr nb (w1.heap.size+1) w1.heap.size N f D)/\Hid (Fr NoT w1 wr)) (λ_ wr=>wr.rangeLeft nb (w1.heap.size+1));case atStart=>exact⟨Uk,PU⟩
 case round=>
  clear Uk PU;obtain⟨Uk,PU⟩:=hrel;obtain⟨lf,cnt,Yr,yu,RG⟩:=Uk.out;clear Uk;go_wp2_with (first
   |(at_next;refine wpList_next_ranges _ rfl _ rfl 9 strKey zdI Value.string (λv:Value=>v) (λkey kl hk=>by obtain⟨x,rfl,_⟩:=WideMaps.string_of_keyOf (P:=Tryz.prog) Tryz.underlying9 hk;exact⟨x,rfl⟩) (λv y _=>⟨v,rfl⟩) nb (w1.heap.size+1) N D lf cnt rfl Yr ?_ ?_)
   |go_in)
  ·intro Ng Nx
   rename World=>wa
   have Yp:(λt=>if lf (.string t)then none else f t)=f:=by
    funext t
    rw[Nx];rfl
   rw[Yp,Ng]at RG;have h2:=La _ _ _ H1.out PU.out;have FL:=QB _ _ h2;have b0:=FL.cell 0;simp only[aD]at b0;have H2:=aA h2;have ki:=aA (show GvR C w1 wa (params.map (·.nm.data.toList)) w1.heap.size 0 m [] [] f from
    ⟨⟨_,RG,by have:=kh.out;omega⟩,Vv.out,λj nm _ hj=>absurd hj (Nat.not_lt_zero _),rfl,rfl,λj b x hb=>by simp at hb,List.nodup_nil,λb hb=>by simp at hb,λx hx=>by simp at hx⟩)
   clear Yp RG h2 FL Yr Ng Nx yu;go_wp2_with fail;go_loopw [33] (λi wr=>∃(k l:Nat)(xs:List Int)(ocs:List Nat)(fo:List UInt8->Option Value),k<=np/\i= .int .i64 k/\Hid (RunAt C lo hi w wr ps oc nb {s with left:=l})/\Hid (GvR C w1 wr (params.map (·.nm.data.toList)) w1.heap.size k l xs ocs fo)/\Hid (Fr (C.MutO oc) w1 wr)/\Hid (gvO at_ Xs {s with left:=m}=gvC xs (gvO at_ (Xs.drop k) {s with left:=l}))) (λi _=>np - (intOf i).toNat);case atStart=>
    refine⟨0,m, [], [],f,Nat.zero_le _,rfl,H2,ki,aA PU.any,aA ?_⟩;rw[List.drop_zero];rcases gvO at_ Xs {s with left:=m}with⟨z|ys,t9⟩<;>rfl
   case round=>
    clear H2 ki b0;obtain⟨k,l,xs,ocs,fo,hk,rfl,H3,HG,Gi,HE⟩:=hrel;by_cases Hk:k < np
    ·have KQ:k < params.length:=by rw[<-Si.out];exact Hk
     have Ys:k < Xs.length:=by rw[<-PE.2];exact KQ
     have J4:k < vs.length:=by rw[PE.1];exact Ys
     obtain⟨pb,po,rfl,Hg⟩:=(Py _ _ H3.out).2.2 (by omega);have LS:=List.drop_eq_getElem_cons KQ;obtain⟨⟨pn,pa⟩,GD⟩:=aF (params[k]);rw[<-GD]at LS;have Hq:=VaR.drop k Hg;rw[LS]at Hq;obtain⟨⟨_,_,_,g0,g1⟩,_⟩:=Hq;simp only at g0 g1;obtain⟨v,ev⟩:∃v,vs[k]?=some v:=⟨_,List.getElem?_eq_getElem J4⟩;obtain⟨X,eX⟩:∃X,Xs[k]?=some X:=⟨_,List.getElem?_eq_getElem Ys⟩;have hdX:Xs.drop k=X::Xs.drop (k+1):=by
      rw[List.drop_eq_getElem_cons Ys]
      congr 1
      exact(List.getElem?_eq_some_iff.1 eX).2
     obtain⟨gX,capsX,rfl,yv,Rd⟩:=HV k v X ev eX;have ko:=aA (λW' t (h':RunAt C lo hi w W' ps oc nb t)=>Rd W' oc nb t h');unfold Enters at yv;have Gj:(k:Int) < (np:Int):=by omega
     have xa:(k:Int) < (nv:Int):=by rw[Sq.out];omega
     have gp:nv<=9223372036854775807:=by rw[Sq.out];exact aK ke.1 ke.2
     have LF:pn.size<=9223372036854775807:=by
      have:=MB _ (List.getElem_mem KQ);rw[<-GD]at this;exact this
     have PH:(params.map (·.nm.data.toList))[k]?=some pn.data.toList:=by
      rw[List.getElem?_map,List.getElem?_eq_getElem KQ,<-GD];rfl
     obtain⟨w4,Fv⟩:=aF (wr.alloc (.cells #[.string pn,.int .i64 pa] 77));have HJ:Fr NoT wr w4:=by rw[Fv];exact aH.alloc _
     have Fq:Bk w4 wr.heap.size 77 #[.string pn,.int .i64 pa]:=by rw[Fv];exact Bk.new _ _ _
     have H4:=aA (La _ _ _ H3.out HJ.drew);have GG:=aA (show Fr (C.MutO oc) w1 w4.drew from Gi.trans HJ.drew.any);have LO:=aA (Fq.fr0 (Fr.refl NoT w4).drew);have NP:=aA Fv;have WF:=aA (show Fr NoT wr w4.drew from HJ.drew);have kp:=aA PH;have Yt:=aA hdX;have kq:=aA ev;clear Fv HJ Fq PH hdX eX ev Rd Hg LS GD KQ Ys J4;go_wp2_with fail;rw[<-NP.out];refine zad (CtS C p q 6 at_) (λ_=>true) (by kernel_rfl) (HS _ _ H4.out) (λaC=>?_);refine zaa 4 ?_;simp only[aB];refine zac 0 aC ?_;simp only[aB];refine zac 5 aC ?_;simp only[aB];refine zaa 1 ?_;simp only[aB];refine zaa 2 ?_;simp only[aB];refine zac 3 aC ?_;simp only[aB];refine zab 6 rfl (by kernel_rfl) (λKK hK=>?_);go_simp;go_at_call 110;rw[<-HR.out];refine(HC _ _ H4.out).mono ?_;rintro e w5 (⟨h0,rfl,rfl⟩|⟨m5,Qb,rfl,RL,Hm⟩)
     ·have he:=HE.out;have h0:l=0:=h0;rw[Yt.out,h0]at he;rcases LD.out with⟨z,hz,rfl⟩|⟨uf,t1,u,hz,_,_⟩
      ·rw[he]at hz;simp only[gvO,gvC]at hz;obtain⟨e1,rfl⟩:=Prod.mk.inj hz;cases e1;exact⟨rfl,rfl,by have:=H4.st;rw[h0]at this;exact this,Hl.trans GG.out⟩
      ·rw[he]at hz;simp only[gvO,gvC]at hz;cases (Prod.mk.inj hz).1
     have Qb:l=m5+1:=Qb;have Np:RunAt C lo hi w w5 ps oc nb {s with left:=m5}:=H4.next Hm.toO RL (by show m5<=l;omega);have H5:=aA Np;have Gk:=aA (GG.trans Hm.toO);have W8:=aA Qb;have W9:Fr (λb=>b=C.R) wr w5:=(WF.any).trans Hm;have ks:=aA W9;have Vz:∀b,w1.heap.size<=b->¬b=C.R:=λb hb e=>by
      have h1:=(HO.out).rT;have h2:=H1.lat.size.2;omega
     have xb:=aA Vz;have Hz:=LO.fr Hm (Vz _ (Gi.size));have JF:=aA Hz;have k0:=Hz.cell 0;have QW:=(NY _ _ Np).cell 0;obtain⟨Ef,rfl,_,_,Zz⟩:=(FP _ _ Np).2.2 (by have:=Sq.out;omega);have Jf:=Zz k _ kq.out;simp only[aD]at k0 QW;clear RL Hm Np Qb aC W9 Vz Hz Zz;try dsimp only
     refine hK _ _ (λ_ _=>HS _ _ H5.out) ?_;clear hK KK;try simp only[aB]
     refine zae (by kernel_rfl) ?_;go_wp2_with fail;refine(ko _ _ H5.out).mono ?_;rintro e w6 ⟨Yu,GA⟩;rcases Xa:X {s with left:=m5}with z6|x6
     ·rw[Xa]at Yu;obtain rfl:=Yu;have he:=HE.out;rw[Yt.out]at he;have yw:gvO at_ (X::Xs.drop (k+1)) {s with left:=l}=(.inl z6,{s with left:=m5}):=by
       simp only[gvO,W8.out,Xa]
      rw[yw]at he;have Hy:=(La _ _ _ H5.out GA).st;rcases LD.out with⟨z,hz,rfl⟩|⟨uf,t1,u,hz,_,_⟩
      ·rw[he]at hz;simp only[gvC]at hz;obtain⟨e1,rfl⟩:=Prod.mk.inj hz;cases e1;exact⟨rfl,rfl,Hy,Hl.trans (Gk.trans GA.any)⟩
      ·rw[he]at hz;simp only[gvC]at hz;cases (Prod.mk.inj hz).1
     rw[Xa]at Yu;obtain⟨rfl,Kg⟩:=Yu;have hg:=HG.out;rw[W8.out]at hg;obtain⟨w8,xc,Qd,kt⟩:=hg.step HO.out (aL _) H1.lat.size.2 (ks.trans GA.any) Kg kp.out LF RC.out K5.out Gi.size;have h6:=La _ _ _ H5.out (GA.alloc (.cells #[.int .i64 x6] 3));have ku:=h6.off HO.out (Fr.grown (T:=λb=>b=w1.heap.size) Qd (λg e _=>(Option.some.inj e).symm)) (λg e=>by
      have e:g=w1.heap.size:=e;refine⟨by have:=H1.lat.size.1;omega,by have:=H1.lat.size.2;omega,λhm=>?_,by omega⟩;have:=H1.st.ol g hm;omega)
     have Fj:=(JF.fr0 (GA.alloc (.cells #[.int .i64 x6] 3)));have k6:=Fj.cell 0;simp only[aD]at k6;have H8:=aA ku;have VT:=aA kt;have SV:=aA (show Fr (C.MutO oc) w1 w8 from(Gk.trans (GA.alloc (.cells #[.int .i64 x6] 3)).any).newer Qd (aL _));have hZ:=aA (show gvO at_ Xs {s with left:=m}=gvC (xs++ [x6]) (gvO at_ (Xs.drop (k+1)) {s with left:=m5}) by
      rw[HE.out,Yt.out];exact zpp (s:={s with left:=l}) W8.out Xa)
     clear ku kt h6 hg Qd GA Kg Xa Fj k0 Jf QW g0 g1 HE HG H3 Gi H4 GG H5 Gk Yt kp kq ko LO JF WF ks;go_wp2_with fail;go_roundw;case rel=>exact⟨k+1,m5,_,_,_,by omega,by go_num,H8,VT,SV,hZ⟩
     case measure=>simp[intOf];omega
    ·have Qa:k=np:=by omega
     have G9:¬(k:Int) < (np:Int):=by omega
     have he:=HE.out;rw[List.drop_of_length_le (by rw[<-PE.2,<-Si.out];omega)]at he;simp only[gvO,gvC,List.append_nil]at he;obtain⟨uf,t1,u,hz,VA,rfl⟩:∃uf t1 u,gvO at_ Xs {s with left:=m}=(.inr uf,t1)/\DB {t1 with own:=uf} h u/\t={u with own:=t1.own}:=by
      rcases LD.out with⟨z,hz,_⟩|hh
      ·rw[he]at hz;cases (Prod.mk.inj hz).1
      ·exact hh
     rw[he]at hz;obtain⟨e1,rfl⟩:=Prod.mk.inj hz;cases e1;have hg:=HG.out;obtain⟨nO,kw,ky⟩:=hg.map;have hlen:(params.map (·.nm.data.toList)).length =k:=by rw[List.length_map,<-Si.out,Qa]
     have Gu:BgSt C ocs {s with left:=l,own:=xs} wr:=H3.st.owns (by rw[hg.xl,hg.ol]) hg.bk hg.nd (λb hb=>by have:=hg.hi b hb;have:=H1.lat.size.2;omega) hg.x64;have kC:RunAt C lo hi w wr (params.map (·.nm.data.toList)) ocs w1.heap.size {s with left:=l,own:=xs}:=by
      refine⟨H3.lat,λb hb=>?_,Gu,⟨⟨nO,fo,kw,ky,hg.glob,λnm j hj=>?_⟩,λnm j hj=>?_,?_⟩⟩
      ·have h1:=hg.hi b hb;have h2:=H1.lat.size.1;omega
      ·exact hg.par j nm (zf9 hj) (by have:=zcF hj;omega)
      ·exact K5 _ (List.mem_of_getElem? (zf9 hj))
      ·have h2:=H1.lat.size.2;rintro(hm|hm)
       ·exact zg4 HO.out h2 hm
       ·exact(hg.hi _ hm).2.2 rfl
     have kD:=aA (yt _ _ _ _ _ _ kC VA);have FL:=QB _ _ H3.out;have b1:=FL.cell 1;simp only[aD]at b1;have MW:=aA (show ∀w9,BgSt C ocs u w9->Fr (C.MutO ocs) wr w9->BgSt C oc {u with own:=s.own} w9/\Fr (C.MutO oc) W w9 from λw9 PP Gl=>by
      have jx:∀b,b < w1.heap.size->C.T<=b->¬C.MutO ocs b:=λb hb yx=>by
       rintro(hm|hm)
       ·exact zg4 HO.out yx hm
       ·have:=hg.hi b hm;omega
      refine⟨PP.owns H1.st.len (λi b x hi hx=>?_) H1.st.nd H1.st.top H1.st.oi,Hl.trans ⟨Gl.os.trans Gi.os,Gl.tape.trans Gi.tape,Gl.output.trans Gi.output,aK Gi.size Gl.size,λi hi hn=>?_⟩⟩
      ·have hm:=List.mem_of_getElem? hi;exact(H3.st.own i b x hi hx).fr Gl (jx b (H1.st.ol b hm) (H1.st.top b hm))
      ·exact(Gl.block i (aM hi Gi.size) (λe=>e.elim (λhm=>hn (.inl hm)) λhm=>by have:=hg.hi i hm;omega)).trans (Gi.block i hi hn))
     clear hz he hg kw ky hlen Gu kC FL VA HE HG H3 Gi Qa Hk;go_wp2_with fail;refine kD.mono ?_;rintro e w9 ⟨rfl,PP,Gl⟩;obtain⟨hA,hB⟩:=MW _ PP Gl;have HQ:=aA (show DoQ C oc h {u with own:=s.own} W (zeI h) w9 from⟨rfl,hA,hB⟩);clear PP Gl hA hB kD MW;cases h with
     |some h=>exact⟨rfl,HQ.out⟩
     |none=>
      unfold zeI;go_wp2_with fail;go_end0;exact HQ.out
  ·intro x c9 kl y1 y2 w2 uO Xb J5 RF Hg UB Hk Jk gq P4;obtain⟨x',ex,rfl,VB⟩:=WideMaps.string_of_keyOf (P:=Tryz.prog) Tryz.underlying9 Xb;obtain rfl:x=x':=by simpa using ex
   have Xc:=RG.kept Jk (by simp);obtain⟨w3,xd,UC,Tc⟩:=Xc.put Tryz.underlying75 (s:=x) (by unfold maxLen at VB;omega) c9 (by have:=kh.out;unfold maxLen;omega);obtain⟨rfl,rfl⟩:DataW.held c9=y1/\([]:List MemPlace)=y2:=by simpa[zdI]using RF
   have Jw:f x.data.toList=some c9:=by
    cases Gl:f x.data.toList with
    |none=>
     have:=(Yq x.data.toList).2.2 Gl (.held .nilFunc);rw[Hg]at this;cases GQ:f x.data.toList with
     |none=>
      have h7:=(Yq x.data.toList).2.2 Gl (.held (.bool true));rw[Hg]at h7;rw[this]at h7;simp at h7
     |some u=>rw[Gl]at GQ;cases GQ
    |some u=>
     have:=(Yq x.data.toList).2.1 u Gl (.held .nilFunc);rw[Hg]at this;simp at this;rw[this]
   have UD:CpR w3 nb (w1.heap.size+1) w1.heap.size N f D:=by
    refine⟨_,uO,UB.kept Tc (by simp;omega) (by simp),by omega,?_⟩;have h9:(λy=>if y=x.data.toList then some c9 else(if lf (.string y)then none else f y))=λt=>if(lf (.string t)&& !(Lit.string t).sameKey (.string x.data.toList))then none else f t:=by
     funext t
     by_cases e:t=x.data.toList
     ·subst e;rw[if_pos rfl,Jw];have:(Lit.string x.data.toList).sameKey (.string x.data.toList)=true:=by simp[Lit.sameKey]
      rw[this];simp
     ·rw[if_neg e];have:(Lit.string t).sameKey (.string x.data.toList)=false:=by simpa[Lit.sameKey]using e
      rw[this];simp
    rw[h9]at UC;obtain⟨D',q1,q2⟩:=UC;exact⟨D',q1.mono (by omega),q2⟩
   have gr:=aA UD;have gt:=aA (show Fr NoT w1 w3 from(PU.newer Jk (Nat.le_succ _)).newer Tc (aL _));have yy:=aA (show w3.rangeLeft nb (w1.heap.size+1) < wr.rangeLeft nb (w1.heap.size+1) by
    obtain⟨Eg,DS,JA,_,_⟩:=UD;rw[(UB.kept Tc (by simp;omega) (by simp)).left_eq,Yr.left_eq];exact Hk)
   clear UD UC Xc RG Yr UB Jw Hg RF J5 Xb Hk gq Tc VB Jk;go_wp2_with fail;go_roundw;case rel=>exact⟨gr,gt⟩
   case measure=>exact yy.out
end
