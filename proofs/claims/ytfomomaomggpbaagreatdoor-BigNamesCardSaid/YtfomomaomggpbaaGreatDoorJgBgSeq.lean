/-
  big: statements one after another: the closure. 
-/
import Derived.WalkMore
import Derived.Test.YtfomomaomggpbaaGreatDoorJgBgPut2
set_option linter.unusedVariables false
set_option linter.unusedSimpArgs false
set_option maxHeartbeats 3200000
set_option maxRecDepth 100000
namespace Go.Proofs.YtfomomaomggpbaaGreatDoor
open Go.RowKit Go.Shelf

abbrev DoR:=Bs→Option Ho→Bs→Prop
def seqD:List DoR→DoR
 | [],s,h,t=>h=none∧t=s
 |D::r,s,h,t=>(∃z,h=some z∧D s (some z) t)∨∃u,D s none u∧seqD r u h t
section
variable {C:BgC} {ps:List (List UInt8)} {w:World} {lo hi q:Nat} {k:Int} {nm:ByteArray} {at_:Int}
theorem all_1 {x:Nat} {A:Option Addr} {c:Nat} {vs:List Value} {Ds:List DoR} (ho:C.Ok) (hT:C.T≤lo) (hx:Bx lo hi w x 147 #[.slice A vs.length c]) (hrow:RowF lo hi w A c vs) (hlen:vs.length=Ds.length) (hv:∀(i:Nat) v D,vs[i]?=some v→Ds[i]?=some D→DoP C ps v D lo hi w) (hDl:∀D∈Ds,∀s h t,D s h t→t.left≤s.left):
  DoP C ps (.func (.func 55) #[] #[.pointer (some ⟨x,0,none⟩)]) (seqD Ds) lo hi w:=by
 refine⟨_,_,rfl,enters_of Tryz.func55 (by kernel_rfl) rfl,fun W oc nb s h t hW hD=>?_⟩
 have c0:=(hW.bx ho hT hx).cell 0
 simp only[List.getElem?_toArray,List.getElem?_cons_zero]at c0
 obtain⟨n,hn⟩:=nmq vs.length
 rw[←hn]at c0
 have hnc:n≤c:=by rw[hn];exact hrow.1
 have hcm:c≤9223372036854775807:=hrow.2.1
 have HROW:=hdq (fun W' t (h':RunAt C lo hi w W' ps oc nb t)=>hrow.run ho hT h')
 have HV:=hdq hv
 have HN:=hdq hn
 have HLEN:=hdq hlen
 have HDL:=hdq hDl
 have HD:=hdq hD
 have HW:=hdq hW
 show Calls Tryz.prog 55 #[.map (some nb),.pointer (some ⟨x,0,none⟩)] W (DoQ C oc h t W)
 clear hx hrow hlen hv hDl hD hW hn hT ho
 go_enter Tryz.func55,Tryz.ntmps55
 go_wp2_with fail
 go_loopw [7] (fun i wr=>∃(k:Nat) (s':Bs),k≤n∧i= .int .i64 k∧Hid (RunAt C lo hi w wr ps oc nb s')∧Hid (seqD (Ds.drop k) s' h t)∧Hid (Fr (C.MutO oc) W wr)) (fun i _=>n - (intOf i).toNat)
 case atStart=>exact⟨0,s,Nat.zero_le _,rfl,HW,hdq (by rw[List.drop_zero];exact HD.out),hdq (Fr.refl _ _)⟩
 case round=>
  clear HW HD c0
  obtain⟨k,s',hk,rfl,H1,HS,HF⟩:=hrel
  by_cases hlt:k < n
  ·have hlv:k < vs.length:=by rw[←HN.out];exact hlt
   have hlD:k < Ds.length:=by rw[←HLEN.out];exact hlv
   obtain⟨v,ev⟩:∃v,vs[k]?=some v:=⟨_,List.getElem?_eq_getElem hlv⟩
   obtain⟨D,eD⟩:∃D,Ds[k]?=some D:=⟨_,List.getElem?_eq_getElem hlD⟩
   have hdr:Ds.drop k=D::Ds.drop (k+1):=by
    rw[List.drop_eq_getElem_cons hlD]
    congr 1
    exact(List.getElem?_eq_some_iff.1 eD).2
   have hs:=HS.out
   rw[hdr]at hs
   obtain⟨b,rfl,hb1,hb2,hbc⟩:=(HROW.out _ _ H1.out).2.2 (by omega)
   have hcell:=hbc k v ev
   obtain⟨g,caps,rfl,hg,hcall⟩:=HV.out k v D ev eD
   have hlt':(k:Int) < (n:Int):=by omega
   have hmid:∃h1 t1,D s' h1 t1∧((∃z,h1=some z∧h=some z∧t=t1)∨(h1=none∧seqD (Ds.drop (k+1)) t1 h t)):=by
    rcases hs with⟨z,rfl,hd⟩|⟨u,hd,hr⟩
    ·exact⟨_,_,hd,.inl ⟨z,rfl,rfl,rfl⟩⟩
    ·exact⟨_,_,hd,.inr ⟨rfl,hr⟩⟩
   obtain⟨h1,t1,hd,hways⟩:=hmid
   have HC:=hdq (hcall wr oc nb s' h1 t1 H1.out hd)
   have hl1:=HDL.out D (List.mem_of_getElem? eD) _ _ _ hd
   have HWY:=hdq hways
   have HL1:=hdq hl1
   unfold Enters at hg
   clear hs hdr hcall hd hways hl1 ev eD hlv hlD hbc hb1 hb2 HS
   go_wp2_with fail
   refine HC.out.mono ?_
   rintro e w2 ⟨rfl,hs2,hf2⟩
   rcases HWY.out with⟨z,rfl,rfl,rfl⟩|⟨rfl,hr⟩
   ·exact⟨rfl,rfl,hs2,HF.out.trans hf2⟩
   have H2:=hdq (H1.out.next hf2 hs2 HL1.out)
   have HF2:=hdq (HF.out.trans hf2)
   have HR:=hdq hr
   clear hs2 hf2 hr HWY HC hcell
   unfold doEnd
   go_wp2_with fail
   go_roundw
   case rel=>exact⟨k+1,t1,by omega,by go_num,H2,HR,HF2⟩
   case measure=>simp[intOf];omega
  ·have hk':k=n:=by omega
   have hs:=HS.out
   rw[List.drop_of_length_le (by rw[←HLEN.out,←HN.out];omega)]at hs
   obtain⟨rfl,rfl⟩:=hs
   have hge:¬(k:Int) < (n:Int):=by omega
   have HQ:=hdq (show DoQ C oc none t W (.returned (.tuple #[])) wr from⟨rfl,H1.out.st,HF.out⟩)
   clear HS hk' hlt
   go_wp2_with fail
   go_end0
   exact HQ.out
end
end Go.Proofs.YtfomomaomggpbaaGreatDoor

namespace Go.Proofs.YtfomomaomggpbaaGreatDoor
open Go.RowKit Go.Shelf Go.Maps

def gvO (at_:Int):List (Bs→Ho ⊕ Int)→Bs→(Ho ⊕ List Int)×Bs
 | [],s=>(.inr [],s)
 |X::r,s=>match s.left with
  |0=>(.inl ⟨2,0,at_⟩,s)
  |m+1=>match X {s with left:=m}with
   | .inl h=>(.inl h,{s with left:=m})
   | .inr x=>match gvO at_ r {s with left:=m}with
    |(.inl h,t)=>(.inl h,t)
    |(.inr xs,t)=>(.inr (x::xs),t)
def gvC (xs:List Int):(Ho ⊕ List Int)×Bs→(Ho ⊕ List Int)×Bs
 |(.inl h,t)=>(.inl h,t)
 |(.inr ys,t)=>(.inr (xs++ys),t)
def calD (at_:Int) (Xs:List (Bs→Ho ⊕ Int)) (DB:DoR) (s:Bs) (h:Option Ho) (t:Bs):Prop:=
 (s.left=0∧h=some ⟨2,0,at_⟩∧t=s)∨∃m,s.left=m+1∧((∃z,gvO at_ Xs {s with left:=m}=(.inl z,t)∧h=some z)∨∃xs t1 u,gvO at_ Xs {s with left:=m}=(.inr xs,t1)∧DB {t1 with own:=xs} h u∧t={u with own:=t1.own})
theorem Fr.newer {T:Nat→Prop} {W w w':World} {g:Nat} (h:Fr T W w) (hg:w.grownBy w' (some g)) (hn:W.heap.size≤g):Fr T W w':=
 ⟨hg.os.trans h.os,hg.tape.trans h.tape,hg.output.trans h.output,leq9 h.size hg.size,fun i hi ht=>(hg.block i (ltq hi h.size) (fun e=>by have:=Option.some.inj e;omega)).trans (h.block i hi ht)⟩
section
variable {C:BgC} {ps:List (List UInt8)} {w:World} {lo hi q:Nat} {k:Int} {nm:ByteArray} {at_:Int}
theorem RunAt.off {W W':World} {oc:List Nat} {nb:Nat} {s:Bs} (h:RunAt C lo hi w W ps oc nb s) (ho:C.Ok) {T:Nat→Prop} (hf:Fr T W W') (hT:∀g,T g→hi≤g∧C.T≤g∧g∉oc∧g≠nb):RunAt C lo hi w W' ps oc nb s:=by
 have h1:=ho.rT
 have h2:=ho.vT
 have h3:=ho.br
 refine⟨⟨⟨leq9 h.lat.size.1 hf.size,leq9 h.lat.size.2 hf.size⟩,fun i hi hn=>(hf.block i (by have:=h.lat.size;omega) fun ht=>?_).trans (h.lat.block i hi hn)⟩,h.new,h.st.fr ho hf ?_ ?_ (fun b hb ht=>?_) (fun b hb ht=>?_) (fun b hb ht=>(hT b ht).2.2.1 hb) fun b hb ht=>?_,?_⟩
 ·have:=hT i ht;omega
 ·intro ht;have:=(hT _ ht).2.1;omega
 ·intro ht;have:=(hT _ ht).2.1;omega
 ·have:=(hT _ ht).2.1;have:=ho.bT b hb;omega
 ·have:=(hT _ ht).2.1;have:=(ho.row _ b hb).1;omega
 ·have:=(hT _ ht).2.1;omega
 ·obtain⟨N,f,g1,g2,g3⟩:=h.sc.map
  exact⟨⟨N,f,g1.fr hf fun ht=>(hT _ ht).2.2.2 rfl,g2,g3⟩,h.sc.ap,h.sc.out⟩
def CpR (w:World) (nb r own N:Nat) (f:List UInt8→Option Value) (D:DataW Value):Prop:=∃lf cnt,w.ranges Tryz.prog 9 heldB nb r N D lf cnt∧cnt≤N∧MpV w own (N - cnt) (fun t=>if lf (.string t)then none else f t)
theorem gv_step {at_:Int} {X:Bs→Ho ⊕ Int} {r:List (Bs→Ho ⊕ Int)} {s:Bs} {m:Nat} {x:Int} {xs:List Int} (hm:s.left=m+1) (hx:X {s with left:=m}= .inr x):gvC xs (gvO at_ (X::r) s)=gvC (xs++ [x]) (gvO at_ r {s with left:=m}):=by
 simp only[gvO,hm,hx]
 rcases gvO at_ r {s with left:=m}with⟨h|ys,t⟩
 ·rfl
 ·simp[gvC]
theorem posI_at:∀ {l:List (List UInt8)} {t:List UInt8} {k:Nat},posI l t=some k→l[k]?=some t
 | [],_,_,h=>by simp[posI]at h
 |x::r,t,k,h=>by
  unfold posI at h
  by_cases e:x=t
  ·rw[if_pos e]at h
   obtain rfl:=Option.some.inj h
   simp[e]
  ·rw[if_neg e]at h
   cases e2:posI r t with
   |none=>rw[e2]at h;simp at h
   |some j=>
    rw[e2]at h
    simp at h
    subst h
    simpa using posI_at e2
structure GvR (C:BgC) (W wr:World) (names:List (List UInt8)) (own k l:Nat) (xs:List Int) (ocs:List Nat) (fo:List UInt8→Option Value):Prop where
 map:∃nO,MpV wr own nO fo∧nO+l≤1000000
 glob:∀nm i,posI C.n.vars nm=some i→fo nm=some (.pointer (some ⟨C.V,i,none⟩))
 par:∀(j:Nat) nm,names[j]?=some nm→j < k→∃b,ocs[j]?=some b∧fo nm=some (.pointer (some ⟨b,0,none⟩))
 xl:xs.length=k
 ol:ocs.length=k
 bk:∀(j b:Nat) (x:Int),ocs[j]?=some b→xs[j]?=some x→Bk wr b 3 #[.int .i64 x]
 nd:ocs.Nodup
 hi:∀b∈ocs,W.heap.size≤b∧b < wr.heap.size∧b≠own
 x64:∀x∈xs,is64 x
theorem GvR.step {W1 wr w6:World} {names:List (List UInt8)} {own k' m5:Nat} {xs:List Int} {ocs:List Nat} {fo:List UInt8→Option Value} (h:GvR C W1 wr names own k' (m5+1) xs ocs fo) (ho:C.Ok) (h1:W1.heap.size≤own) (hT:C.T≤W1.heap.size) (hf:Fr (fun b=>b=C.R) wr w6) {x:Int} (hx:is64 x) {pn:ByteArray} (hk:names[k']?=some pn.data.toList) (hpn:pn.size≤9223372036854775807) (hnd:names.Nodup) (hfr:∀nm∈names,posI C.n.vars nm=none) (hlo:W1.heap.size≤wr.heap.size):
  ∃w8,(Instr.mapUpdate 75 (.map (some own)) (.string pn) (.pointer (some ⟨w6.heap.size,0,none⟩))).run Tryz.prog (w6.alloc (.cells #[.int .i64 x] 3))= .ok () w8∧(w6.alloc (.cells #[.int .i64 x] 3)).grownBy w8 (some own)∧
   GvR C W1 w8 names own (k'+1) m5 (xs++ [x]) (ocs++ [w6.heap.size]) (fun y=>if y=pn.data.toList then some (.pointer (some ⟨w6.heap.size,0,none⟩))else fo y):=by
 obtain⟨nO,hm,hn⟩:=h.map
 have hol:=hm.lt
 have hRT:=ho.rT
 have hneR:own≠C.R:=by omega
 have hf7:Fr (fun b=>b=C.R) wr (w6.alloc (.cells #[.int .i64 x] 3)):=hf.alloc _
 have hm7:=hm.fr hf7 hneR
 have hsz:=hf.size
 obtain⟨w8,hu,hm8,hg⟩:=hm7.put Tryz.underlying75 (s:=pn) hpn (.pointer (some ⟨w6.heap.size,0,none⟩)) (by unfold maxLen;omega)
 have hgs:w6.heap.size+1≤w8.heap.size:=by have:=hg.size;simpa using this
 refine⟨w8,hu,hg,⟨⟨_,hm8,by omega⟩,fun nm i hi=>?_,fun j nm hj hjk=>?_,by simp[h.xl],by simp[h.ol],fun j b y hb hy=>?_,?_,fun b hb=>?_,fun y hy=>?_⟩⟩
 ·have hne:nm≠pn.data.toList:=fun e=>by
   have:=hfr _ (List.mem_of_getElem? hk)
   rw[←e,hi]at this
   cases this
  simp only[if_neg hne]
  exact h.glob nm i hi
 ·by_cases e:j=k'
  ·subst e
   rw[hk]at hj
   obtain rfl:=Option.some.inj hj
   refine⟨w6.heap.size,?_,by simp⟩
   rw[List.getElem?_append_right (by rw[h.ol];exact lrq _),h.ol]
   simp
  ·obtain⟨b,hb,hfo⟩:=h.par j nm hj (by omega)
   have hne:nm≠pn.data.toList:=fun e2=>by
    rw[e2]at hj
    obtain⟨l1,g1⟩:=List.getElem?_eq_some_iff.1 hj
    obtain⟨l2,g2⟩:=List.getElem?_eq_some_iff.1 hk
    exact e ((List.getElem_inj hnd).1 (g1.trans g2.symm))
   refine⟨b,?_,by simp only[if_neg hne];exact hfo⟩
   rw[List.getElem?_append_left (List.getElem?_eq_some_iff.1 hb).1]
   exact hb
 ·by_cases hj:j < k'
  ·rw[List.getElem?_append_left (by rw[h.ol];exact hj)]at hb
   rw[List.getElem?_append_left (by rw[h.xl];exact hj)]at hy
   have hbi:=h.hi b (List.mem_of_getElem? hb)
   have hbk:=(h.bk j b y hb hy).fr hf7 (fun e=>by have e:b=C.R:=e;omega)
   exact(hg.block b hbk.lt (fun e=>hbi.2.2 (Option.some.inj e))).trans hbk
  ·rw[List.getElem?_append_right (by rw[h.ol];omega),h.ol]at hb
   rw[List.getElem?_append_right (by rw[h.xl];omega),h.xl]at hy
   have hj0:j - k'=0:=by
    have:=(List.getElem?_eq_some_iff.1 hb).1
    simp at this
    omega
   rw[hj0]at hb hy
   simp at hb hy
   subst hb hy
   have hbk:=Bk.new w6 3 #[.int .i64 x]
   exact(hg.block _ hbk.lt (fun e=>by have:=Option.some.inj e;omega)).trans hbk
 ·rw[List.nodup_append]
  refine⟨h.nd,by simp,fun a ha b hb e=>?_⟩
  simp at hb
  have:=h.hi a ha
  omega
 ·rcases List.mem_append.1 hb with hb|hb
  ·have:=h.hi b hb
   exact⟨this.1,by omega,this.2.2⟩
  ·simp at hb
   subst hb
   exact⟨by omega,by omega,by omega⟩
 ·rcases List.mem_append.1 hy with hy|hy
  ·exact h.x64 y hy
  ·simp at hy
   rw[hy]
   exact hx
theorem call_1 {p x3 x4:Nat} {ty:TypeId} {cs:Array Value} {Ap A:Option Addr} {cp c:Nat} {vb:Value} {vs:List Value} {Xs:List (Bs→Ho ⊕ Int)} {DB:DoR} {params:List Va} {S:Nat→Prop} {Z:Prop} (ho:C.Ok) (hT:C.T≤lo) (hpg:PgAt C w) (hp:Bx lo hi w p 69 #[.pointer (some ⟨C.P,0,none⟩)]) (hq:Bx lo hi w q ty cs) (h6:cs[6]?=some (.int .i64 at_))
  (h3:Bx lo hi w x3 83 #[.slice Ap params.length cp,vb]) (h4:Bx lo hi w x4 276 #[.slice A vs.length c]) (hrow:RowF lo hi w A c vs) (hlen:vs.length=Xs.length) (hnp:params.length=Xs.length) (hv:∀(i:Nat) v X,vs[i]?=some v→Xs[i]?=some X→ValP C ps v X lo hi w)
  (hvb:DoP C (params.map (·.nm.data.toList)) vb DB lo hi w) (hpar:SlR (VaR w S Z params) params.length 24 Ap cp) (hS:∀b,S b→b < C.B) (hsz:∀x∈params,x.nm.size≤9223372036854775807) (hnd:(params.map (·.nm.data.toList)).Nodup) (hfr:∀nm∈params.map (·.nm.data.toList),posI C.n.vars nm=none):
  DoP C ps (.func (.func 183) #[] #[.pointer (some ⟨p,0,none⟩),.pointer (some ⟨q,0,none⟩),.pointer (some ⟨x3,0,none⟩),.pointer (some ⟨x4,0,none⟩)]) (calD at_ Xs DB) lo hi w:=by
 obtain⟨gB,capsB,rfl,hgB,hcallB⟩:=hvb
 refine⟨_,_,rfl,enters_of Tryz.func183 (by kernel_rfl) rfl,fun W oc nb s h t hW0 hD=>?_⟩
 have hW:=hW0.fr0 ho (Fr.refl NoT W).drew
 have hm0:=run_makeMap (P:=Tryz.prog)
 have HS:=hdq (fun W' t (h':RunAt C lo hi w W' ps oc nb t)=>h'.cts ho hT hpg hp hq (i:=6) h6)
 have HC:=hdq (fun W' t (h':RunAt C lo hi w W' ps oc nb t)=>cost_any h'.st ho at_)
 have HF0:=hdq (fun W' W2 t (h':RunAt C lo hi w W' ps oc nb t) (hf:Fr NoT W' W2)=>h'.fr0 ho hf)
 have HROW:=hdq (fun W' t (h':RunAt C lo hi w W' ps oc nb t)=>hrow.run ho hT h')
 have HB3:=hdq (fun W' t (h':RunAt C lo hi w W' ps oc nb t)=>h'.bx ho hT h3)
 have HB4:=hdq (fun W' t (h':RunAt C lo hi w W' ps oc nb t)=>h'.bx ho hT h4)
 have HV:=hdq hv
 have HCB:=hdq hcallB
 have HO:=hdq ho
 have HPAR:=hdq (fun W' t (h':RunAt C lo hi w W' ps oc nb t)=>(show SlR (VaR W' S Z params) params.length 24 Ap cp from hpar.imp fun _ _ hx=>VaR.keep (fun pp hpp=>by
  have hb:=hS _ hpp
  have h1:=ho.br
  have h2:=ho.rT
  have h3:=ho.bl
  have hnm:¬C.Mut pp.block:=by
   rintro(e|e|e|e)
   ·omega
   ·have:=h'.st.sto.vl;omega
   ·obtain⟨i,hi⟩:=List.mem_iff_getElem?.1 e
    have hil:i < t.ls.length:=by rw[←h'.st.sto.len];exact(List.getElem?_eq_some_iff.1 hi).1
    have:=(h'.st.sto.each i _ _ hi (List.getElem?_eq_getElem hil)).1
    omega
   ·have:=ho.bm;omega
  have hblk:=h'.lat.block pp.block (.inl (by omega)) hnm
  exact⟨World.cell?_of_block hblk,World.frozen?_of_block hblk⟩) hx))
 have HSZ:=hdq hsz
 have HND:=hdq hnd
 have HFR:=hdq hfr
 have HLEN:=hdq (aiq hlen hnp)
 have hnp1:params.length≤9223372036854775807:=leq9 hpar.1 hpar.2.1.1
 have hcc:vs.length≤c∧c≤9223372036854775807:=⟨hrow.1,hrow.2.1⟩
 have HW:=hdq hW
 unfold Enters at hgB
 show Calls Tryz.prog 183 #[.map (some nb),.pointer (some ⟨p,0,none⟩),.pointer (some ⟨q,0,none⟩),.pointer (some ⟨x3,0,none⟩),.pointer (some ⟨x4,0,none⟩)] W (DoQ C oc h t W)
 have HD:=hdq hD
 obtain⟨R,hR⟩:=nmq C.R
 rw[←hR]at HC
 have HR:=hdq hR
 have HCC:=hdq hcc
 obtain⟨np,hnp'⟩:=nmq params.length
 obtain⟨nv,hnv'⟩:=nmq vs.length
 rw[←hnp']at hnp1 HB3
 rw[←hnv']at HB4
 have HNP:=hdq hnp'
 have HNV:=hdq hnv'
 clear hcallB hq hp h3 h4 hT hW hW0 hpg hD ho h6 hR hrow hlen hnp hv hpar hS hsz hnd hfr hcc hnp' hnv'
 go_enter Tryz.func183,Tryz.ntmps183
 go_wp2_with fail
 refine wp_region_E (CtS C p q 6 at_) (fun _=>true) (by kernel_rfl) (HS.out _ _ HW.out) (fun hHeld=>?_)
 refine wpE_pu 4 ?_
 try simp only[Act.put,List.setIfInBounds_toArray,List.set_cons_zero,List.set_cons_succ]
 refine wpE_tv 0 hHeld ?_
 try simp only[Act.put,List.setIfInBounds_toArray,List.set_cons_zero,List.set_cons_succ]
 refine wpE_tv 5 hHeld ?_
 try simp only[Act.put,List.setIfInBounds_toArray,List.set_cons_zero,List.set_cons_succ]
 refine wpE_pu 1 ?_
 try simp only[Act.put,List.setIfInBounds_toArray,List.set_cons_zero,List.set_cons_succ]
 refine wpE_pu 2 ?_
 try simp only[Act.put,List.setIfInBounds_toArray,List.set_cons_zero,List.set_cons_succ]
 refine wpE_tv 3 hHeld ?_
 try simp only[Act.put,List.setIfInBounds_toArray,List.set_cons_zero,List.set_cons_succ]
 refine wpE_next 6 rfl (by kernel_rfl) (fun KK hK=>?_)
 go_simp
 go_at_call 110
 rw[←HR.out]
 refine(HC.out _ _ HW.out).mono ?_
 rintro e w1 (⟨h0,rfl,rfl⟩|⟨m,hm,rfl,hs1,hf1⟩)
 ·rcases HD.out with⟨_,rfl,rfl⟩|⟨m,hm,_⟩
  ·exact⟨rfl,rfl,HW.out.st,(Fr.refl _ _).drew⟩
  ·omega
 have hr1:RunAt C lo hi w w1 ps oc nb {s with left:=m}:=HW.out.next hf1.toO hs1 (by show m≤s.left;omega)
 have hd:((∃z,gvO at_ Xs {s with left:=m}=(.inl z,t)∧h=some z)∨∃xs t1 u,gvO at_ Xs {s with left:=m}=(.inr xs,t1)∧DB {t1 with own:=xs} h u∧t={u with own:=t1.own}):=by
  rcases HD.out with⟨h0,_,_⟩|⟨m',hm',hl⟩
  ·omega
  ·obtain rfl:m=m':=by omega
   exact hl
 obtain⟨N,f,hmp,hNl,hglob,hparm⟩:=hr1.sc.map
 obtain⟨D,hown,hDf⟩:=hmp
 have H1:=hdq hr1
 have HD1:=hdq hd
 have HDF:=hdq hDf
 have HGL:=hdq hglob
 have HNL:=hdq (show N+m≤1000000 from hNl)
 have HAP:=hdq hr1.sc.ap
 have HF1:=hdq (show Fr (C.MutO oc) W w1 from((Fr.refl _ _).drew.trans hf1).toO)
 have hsl:=hown.size_le
 have hol:=hown.lt
 clear hs1 hf1 hr1 hm hHeld HD HW hd hDf hglob hparm hNl
 try dsimp only
 refine hK _ _ (fun _ _=>HS.out _ _ H1.out) ?_
 clear hK KK
 try simp only[Act.put,List.setIfInBounds_toArray,List.set_cons_zero,List.set_cons_succ]
 refine wpE_done (by kernel_rfl) ?_
 have e1:(w1.alloc (.map #[] 0)).heap.size =w1.heap.size+1:=by simp
 go_wp2_with (first
  |(at_range;refine wpList_range_own _ rfl _ 75 rfl 9 78 strKey Tryz.underlying75 _ nb N D rfl (hown.alloc _) ?_;intro w0 hrg0 hg0 hs0)
  |go_in)
 go_frame
 rw[e1]at hrg0 hs0 ⊢
 have hcp0:CpR w0 nb (w1.heap.size+1) w1.heap.size N f D:=by
  refine⟨_,_,hrg0,hsl,?_⟩
  have h1:MpV w0 w1.heap.size 0 fun _=>none:=(MpV.made w1).kept hg0 (by simp)
  have h2:(fun t=>if Maps.has D (.string t)then none else f t)=fun _=>(none:Option Value):=by
   funext t
   rw[(HDF.out t).1]
   cases f t<;>simp
  rw[h2]
  obtain⟨D',q1,q2⟩:=h1
  exact⟨D',q1.mono (Nat.zero_le _),q2⟩
 have HCP:=hdq hcp0
 have HFW:=hdq (show Fr NoT w1 w0 from((Fr.refl NoT w1).alloc (.map #[] 0)).trans (Fr.grown hg0 (fun g e=>by simp at e)))
 have HSL:=hdq hsl
 clear hcp0 hrg0 hg0 hs0 hown hsl e1
 go_loopw [7] (fun _ wr=>Hid (CpR wr nb (w1.heap.size+1) w1.heap.size N f D)∧Hid (Fr NoT w1 wr)) (fun _ wr=>wr.rangeLeft nb (w1.heap.size+1))
 case atStart=>exact⟨HCP,HFW⟩
 case round=>
  clear HCP HFW
  obtain⟨HCP,HFW⟩:=hrel
  obtain⟨lf,cnt,hrg,hcN,hmp⟩:=HCP.out
  clear HCP
  go_wp2_with (first
   |(at_next;refine wpList_next_ranges _ rfl _ rfl 9 strKey heldB Value.string (fun v:Value=>v) (fun key kl hk=>by obtain⟨x,rfl,_⟩:=WideMaps.string_of_keyOf (P:=Tryz.prog) Tryz.underlying9 hk;exact⟨x,rfl⟩) (fun v y _=>⟨v,rfl⟩) nb (w1.heap.size+1) N D lf cnt rfl hrg ?_ ?_)
   |go_in)
  ·intro hc0 hl0
   rename World=>wa
   have hfo:(fun t=>if lf (.string t)then none else f t)=f:=by
    funext t
    rw[hl0]
    rfl
   rw[hfo,hc0]at hmp
   have h2:=HF0.out _ _ _ H1.out HFW.out
   have hb3:=HB3.out _ _ h2
   have b0:=hb3.cell 0
   simp only[List.getElem?_toArray,List.getElem?_cons_succ,List.getElem?_cons_zero]at b0
   have H2:=hdq h2
   have HG0:=hdq (show GvR C w1 wa (params.map (·.nm.data.toList)) w1.heap.size 0 m [] [] f from
    ⟨⟨_,hmp,by have:=HNL.out;omega⟩,HGL.out,fun j nm _ hj=>absurd hj (Nat.not_lt_zero _),rfl,rfl,fun j b x hb=>by simp at hb,List.nodup_nil,fun b hb=>by simp at hb,fun x hx=>by simp at hx⟩)
   clear hfo hmp h2 hb3 hrg hc0 hl0 hcN
   go_wp2_with fail
   go_loopw [33] (fun i wr=>∃(k l:Nat) (xs:List Int) (ocs:List Nat) (fo:List UInt8→Option Value),k≤np∧i= .int .i64 k∧Hid (RunAt C lo hi w wr ps oc nb {s with left:=l})∧Hid (GvR C w1 wr (params.map (·.nm.data.toList)) w1.heap.size k l xs ocs fo)∧Hid (Fr (C.MutO oc) w1 wr)∧Hid (gvO at_ Xs {s with left:=m}=gvC xs (gvO at_ (Xs.drop k) {s with left:=l}))) (fun i _=>np - (intOf i).toNat)
   case atStart=>
    refine⟨0,m, [], [],f,Nat.zero_le _,rfl,H2,HG0,hdq HFW.out.any,hdq ?_⟩
    rw[List.drop_zero]
    rcases gvO at_ Xs {s with left:=m}with⟨z|ys,t9⟩<;>rfl
   case round=>
    clear H2 HG0 b0
    obtain⟨k,l,xs,ocs,fo,hk,rfl,H3,HG,HF3,HE⟩:=hrel
    by_cases hlt:k < np
    ·have hlp:k < params.length:=by rw[←HNP.out];exact hlt
     have hlX:k < Xs.length:=by rw[←HLEN.out.2];exact hlp
     have hlv:k < vs.length:=by rw[HLEN.out.1];exact hlX
     obtain⟨pb,po,rfl,hat⟩:=(HPAR.out _ _ H3.out).2.2 (by omega)
     have hdp:=List.drop_eq_getElem_cons hlp
     obtain⟨⟨pn,pa⟩,hpx⟩:=nmq (params[k])
     rw[←hpx]at hdp
     have hat1:=VaR.drop k hat
     rw[hdp]at hat1
     obtain⟨⟨_,_,_,g0,g1⟩,_⟩:=hat1
     simp only at g0 g1
     obtain⟨v,ev⟩:∃v,vs[k]?=some v:=⟨_,List.getElem?_eq_getElem hlv⟩
     obtain⟨X,eX⟩:∃X,Xs[k]?=some X:=⟨_,List.getElem?_eq_getElem hlX⟩
     have hdX:Xs.drop k=X::Xs.drop (k+1):=by
      rw[List.drop_eq_getElem_cons hlX]
      congr 1
      exact(List.getElem?_eq_some_iff.1 eX).2
     obtain⟨gX,capsX,rfl,hgX,hcallX⟩:=HV.out k v X ev eX
     have HCX:=hdq (fun W' t (h':RunAt C lo hi w W' ps oc nb t)=>hcallX W' oc nb t h')
     unfold Enters at hgX
     have hlt':(k:Int) < (np:Int):=by omega
     have hvk:(k:Int) < (nv:Int):=by rw[HNV.out];omega
     have hnv1:nv≤9223372036854775807:=by rw[HNV.out];exact leq9 HCC.out.1 HCC.out.2
     have hpnm:pn.size≤9223372036854775807:=by
      have:=HSZ.out _ (List.getElem_mem hlp)
      rw[←hpx]at this
      exact this
     have hnk:(params.map (·.nm.data.toList))[k]?=some pn.data.toList:=by
      rw[List.getElem?_map,List.getElem?_eq_getElem hlp,←hpx]
      rfl
     obtain⟨w4,hw4⟩:=nmq (wr.alloc (.cells #[.string pn,.int .i64 pa] 77))
     have hf4:Fr NoT wr w4:=by rw[hw4];exact(Fr.refl _ _).alloc _
     have hk4:Bk w4 wr.heap.size 77 #[.string pn,.int .i64 pa]:=by rw[hw4];exact Bk.new _ _ _
     have H4:=hdq (HF0.out _ _ _ H3.out hf4.drew)
     have HF4:=hdq (show Fr (C.MutO oc) w1 w4.drew from HF3.out.trans hf4.drew.any)
     have HK4:=hdq (hk4.fr0 (Fr.refl NoT w4).drew)
     have HW4:=hdq hw4
     have HG4:=hdq (show Fr NoT wr w4.drew from hf4.drew)
     have HNK:=hdq hnk
     have HDX:=hdq hdX
     have HEV:=hdq ev
     clear hw4 hf4 hk4 hnk hdX eX ev hcallX hat hdp hpx hlp hlX hlv
     go_wp2_with fail
     rw[←HW4.out]
     refine wp_region_E (CtS C p q 6 at_) (fun _=>true) (by kernel_rfl) (HS.out _ _ H4.out) (fun hHeld=>?_)
     refine wpE_pu 4 ?_
     try simp only[Act.put,List.setIfInBounds_toArray,List.set_cons_zero,List.set_cons_succ]
     refine wpE_tv 0 hHeld ?_
     try simp only[Act.put,List.setIfInBounds_toArray,List.set_cons_zero,List.set_cons_succ]
     refine wpE_tv 5 hHeld ?_
     try simp only[Act.put,List.setIfInBounds_toArray,List.set_cons_zero,List.set_cons_succ]
     refine wpE_pu 1 ?_
     try simp only[Act.put,List.setIfInBounds_toArray,List.set_cons_zero,List.set_cons_succ]
     refine wpE_pu 2 ?_
     try simp only[Act.put,List.setIfInBounds_toArray,List.set_cons_zero,List.set_cons_succ]
     refine wpE_tv 3 hHeld ?_
     try simp only[Act.put,List.setIfInBounds_toArray,List.set_cons_zero,List.set_cons_succ]
     refine wpE_next 6 rfl (by kernel_rfl) (fun KK hK=>?_)
     go_simp
     go_at_call 110
     rw[←HR.out]
     refine(HC.out _ _ H4.out).mono ?_
     rintro e w5 (⟨h0,rfl,rfl⟩|⟨m5,hm5,rfl,hs5,hf5⟩)
     ·have he:=HE.out
      have h0:l=0:=h0
      rw[HDX.out,h0]at he
      rcases HD1.out with⟨z,hz,rfl⟩|⟨xs',t1,u,hz,_,_⟩
      ·rw[he]at hz
       simp only[gvO,gvC]at hz
       obtain⟨e1,rfl⟩:=Prod.mk.inj hz
       cases e1
       exact⟨rfl,rfl,by have:=H4.out.st;rw[h0]at this;exact this,HF1.out.trans HF4.out⟩
      ·rw[he]at hz
       simp only[gvO,gvC]at hz
       cases (Prod.mk.inj hz).1
     have hm5:l=m5+1:=hm5
     have hr5:RunAt C lo hi w w5 ps oc nb {s with left:=m5}:=H4.out.next hf5.toO hs5 (by show m5≤l;omega)
     have H5:=hdq hr5
     have HF5:=hdq (HF4.out.trans hf5.toO)
     have HM5:=hdq hm5
     have hg5:Fr (fun b=>b=C.R) wr w5:=(HG4.out.any).trans hf5
     have HG5:=hdq hg5
     have hRn:∀b,w1.heap.size≤b→¬b=C.R:=fun b hb e=>by
      have h1:=(HO.out).rT
      have h2:=H1.out.lat.size.2
      omega
     have HRN:=hdq hRn
     have hk5:=HK4.out.fr hf5 (hRn _ (HF3.out.size))
     have HK5:=hdq hk5
     have k0:=hk5.cell 0
     have hb4:=(HB4.out _ _ hr5).cell 0
     obtain⟨vb9,rfl,_,_,hvc⟩:=(HROW.out _ _ hr5).2.2 (by have:=HNV.out;omega)
     have hv5:=hvc k _ HEV.out
     simp only[List.getElem?_toArray,List.getElem?_cons_succ,List.getElem?_cons_zero]at k0 hb4
     clear hs5 hf5 hr5 hm5 hHeld hg5 hRn hk5 hvc
     try dsimp only
     refine hK _ _ (fun _ _=>HS.out _ _ H5.out) ?_
     clear hK KK
     try simp only[Act.put,List.setIfInBounds_toArray,List.set_cons_zero,List.set_cons_succ]
     refine wpE_done (by kernel_rfl) ?_
     go_wp2_with fail
     refine(HCX.out _ _ H5.out).mono ?_
     rintro e w6 ⟨he6,hf6⟩
     rcases hx6:X {s with left:=m5}with z6|x6
     ·rw[hx6]at he6
      obtain rfl:=he6
      have he:=HE.out
      rw[HDX.out]at he
      have hg9:gvO at_ (X::Xs.drop (k+1)) {s with left:=l}=(.inl z6,{s with left:=m5}):=by
       simp only[gvO,HM5.out,hx6]
      rw[hg9]at he
      have hb6:=(HF0.out _ _ _ H5.out hf6).st
      rcases HD1.out with⟨z,hz,rfl⟩|⟨xs',t1,u,hz,_,_⟩
      ·rw[he]at hz
       simp only[gvC]at hz
       obtain⟨e1,rfl⟩:=Prod.mk.inj hz
       cases e1
       exact⟨rfl,rfl,hb6,HF1.out.trans (HF5.out.trans hf6.any)⟩
      ·rw[he]at hz
       simp only[gvC]at hz
       cases (Prod.mk.inj hz).1
     rw[hx6]at he6
     obtain⟨rfl,h64⟩:=he6
     have hg:=HG.out
     rw[HM5.out]at hg
     obtain⟨w8,hu8,hg8,hG8⟩:=hg.step HO.out (lrq _) H1.out.lat.size.2 (HG5.out.trans hf6.any) h64 HNK.out hpnm HND.out HFR.out HF3.out.size
     have h6:=HF0.out _ _ _ H5.out (hf6.alloc (.cells #[.int .i64 x6] 3))
     have hr8:=h6.off HO.out (Fr.grown (T:=fun b=>b=w1.heap.size) hg8 (fun g e _=>(Option.some.inj e).symm)) (fun g e=>by
      have e:g=w1.heap.size:=e
      refine⟨by have:=H1.out.lat.size.1;omega,by have:=H1.out.lat.size.2;omega,fun hm=>?_,by omega⟩
      have:=H1.out.st.ol g hm
      omega)
     have hk6:=(HK5.out.fr0 (hf6.alloc (.cells #[.int .i64 x6] 3)))
     have k6:=hk6.cell 0
     simp only[List.getElem?_toArray,List.getElem?_cons_succ,List.getElem?_cons_zero]at k6
     have H8:=hdq hr8
     have HG8:=hdq hG8
     have HF8:=hdq (show Fr (C.MutO oc) w1 w8 from(HF5.out.trans (hf6.alloc (.cells #[.int .i64 x6] 3)).any).newer hg8 (lrq _))
     have HE8:=hdq (show gvO at_ Xs {s with left:=m}=gvC (xs++ [x6]) (gvO at_ (Xs.drop (k+1)) {s with left:=m5}) by
      rw[HE.out,HDX.out]
      exact gv_step (s:={s with left:=l}) HM5.out hx6)
     clear hr8 hG8 h6 hg hg8 hf6 h64 hx6 hk6 k0 hv5 hb4 g0 g1 HE HG H3 HF3 H4 HF4 H5 HF5 HDX HNK HEV HCX HK4 HK5 HG4 HG5
     go_wp2_with fail
     go_roundw
     case rel=>exact⟨k+1,m5,_,_,_,by omega,by go_num,H8,HG8,HF8,HE8⟩
     case measure=>simp[intOf];omega
    ·have hk':k=np:=by omega
     have hge:¬(k:Int) < (np:Int):=by omega
     have he:=HE.out
     rw[List.drop_of_length_le (by rw[←HLEN.out.2,←HNP.out];omega)]at he
     simp only[gvO,gvC,List.append_nil]at he
     obtain⟨xs',t1,u,hz,hdb,rfl⟩:∃xs' t1 u,gvO at_ Xs {s with left:=m}=(.inr xs',t1)∧DB {t1 with own:=xs'} h u∧t={u with own:=t1.own}:=by
      rcases HD1.out with⟨z,hz,_⟩|hh
      ·rw[he]at hz
       cases (Prod.mk.inj hz).1
      ·exact hh
     rw[he]at hz
     obtain⟨e1,rfl⟩:=Prod.mk.inj hz
     cases e1
     have hg:=HG.out
     obtain⟨nO,hmO,hnO⟩:=hg.map
     have hlen:(params.map (·.nm.data.toList)).length =k:=by rw[List.length_map,←HNP.out,hk']
     have hst:BgSt C ocs {s with left:=l,own:=xs} wr:=H3.out.st.owns (by rw[hg.xl,hg.ol]) hg.bk hg.nd (fun b hb=>by have:=hg.hi b hb;have:=H1.out.lat.size.2;omega) hg.x64
     have hrB:RunAt C lo hi w wr (params.map (·.nm.data.toList)) ocs w1.heap.size {s with left:=l,own:=xs}:=by
      refine⟨H3.out.lat,fun b hb=>?_,hst,⟨⟨nO,fo,hmO,hnO,hg.glob,fun nm j hj=>?_⟩,fun nm j hj=>?_,?_⟩⟩
      ·have h1:=hg.hi b hb
       have h2:=H1.out.lat.size.1
       omega
      ·exact hg.par j nm (posI_at hj) (by have:=posI_lt hj;omega)
      ·exact HFR.out _ (List.mem_of_getElem? (posI_at hj))
      ·have h2:=H1.out.lat.size.2
       rintro(hm|hm)
       ·exact new_ok HO.out h2 hm
       ·exact(hg.hi _ hm).2.2 rfl
     have HCF:=hdq (HCB.out _ _ _ _ _ _ hrB hdb)
     have hb3:=HB3.out _ _ H3.out
     have b1:=hb3.cell 1
     simp only[List.getElem?_toArray,List.getElem?_cons_succ,List.getElem?_cons_zero]at b1
     have HFIN:=hdq (show ∀w9,BgSt C ocs u w9→Fr (C.MutO ocs) wr w9→BgSt C oc {u with own:=s.own} w9∧Fr (C.MutO oc) W w9 from fun w9 hs9 hf9=>by
      have hap:∀b,b < w1.heap.size→C.T≤b→¬C.MutO ocs b:=fun b hb hTb=>by
       rintro(hm|hm)
       ·exact new_ok HO.out hTb hm
       ·have:=hg.hi b hm;omega
      refine⟨hs9.owns H1.out.st.len (fun i b x hi hx=>?_) H1.out.st.nd H1.out.st.top H1.out.st.oi,HF1.out.trans ⟨hf9.os.trans HF3.out.os,hf9.tape.trans HF3.out.tape,hf9.output.trans HF3.out.output,leq9 HF3.out.size hf9.size,fun i hi hn=>?_⟩⟩
      ·have hm:=List.mem_of_getElem? hi
       exact(H3.out.st.own i b x hi hx).fr hf9 (hap b (H1.out.st.ol b hm) (H1.out.st.top b hm))
      ·exact(hf9.block i (ltq hi HF3.out.size) (fun e=>e.elim (fun hm=>hn (.inl hm)) fun hm=>by have:=hg.hi i hm;omega)).trans (HF3.out.block i hi hn))
     clear hz he hg hmO hnO hlen hst hrB hb3 hdb HE HG H3 HF3 hk' hlt
     go_wp2_with fail
     refine HCF.out.mono ?_
     rintro e w9 ⟨rfl,hs9,hf9⟩
     obtain⟨hA,hB⟩:=HFIN.out _ hs9 hf9
     have HQ:=hdq (show DoQ C oc h {u with own:=s.own} W (doEnd h) w9 from⟨rfl,hA,hB⟩)
     clear hs9 hf9 hA hB HCF HFIN
     cases h with
     |some h=>exact⟨rfl,HQ.out⟩
     |none=>
      unfold doEnd
      go_wp2_with fail
      go_end0
      exact HQ.out
  ·intro x c9 kl y1 y2 w2 cnt1 hkey hlk hrd hat hrg1 hlt hg1 hsz1 hen
   obtain⟨x',ex,rfl,hxm⟩:=WideMaps.string_of_keyOf (P:=Tryz.prog) Tryz.underlying9 hkey
   obtain rfl:x=x':=by simpa using ex
   have hmp1:=hmp.kept hg1 (by simp)
   obtain⟨w3,hu3,hmp3,hg3⟩:=hmp1.put Tryz.underlying75 (s:=x) (by unfold maxLen at hxm;omega) c9 (by have:=HNL.out;unfold maxLen;omega)
   obtain⟨rfl,rfl⟩:DataW.held c9=y1∧([]:List MemPlace)=y2:=by simpa[heldB]using hrd
   have hfx:f x.data.toList=some c9:=by
    cases hf9:f x.data.toList with
    |none=>
     have:=(HDF.out x.data.toList).2.2 hf9 (.held .nilFunc)
     rw[hat]at this
     cases hf8:f x.data.toList with
     |none=>
      have h7:=(HDF.out x.data.toList).2.2 hf9 (.held (.bool true))
      rw[hat]at h7
      rw[this]at h7
      simp at h7
     |some u=>rw[hf9]at hf8;cases hf8
    |some u=>
     have:=(HDF.out x.data.toList).2.1 u hf9 (.held .nilFunc)
     rw[hat]at this
     simp at this
     rw[this]
   have hcp3:CpR w3 nb (w1.heap.size+1) w1.heap.size N f D:=by
    refine⟨_,cnt1,hrg1.kept hg3 (by simp;omega) (by simp),by omega,?_⟩
    have h9:(fun y=>if y=x.data.toList then some c9 else(if lf (.string y)then none else f y))=fun t=>if(lf (.string t)&& !(Lit.string t).sameKey (.string x.data.toList))then none else f t:=by
     funext t
     by_cases e:t=x.data.toList
     ·subst e
      rw[if_pos rfl,hfx]
      have:(Lit.string x.data.toList).sameKey (.string x.data.toList)=true:=by simp[Lit.sameKey]
      rw[this]
      simp
     ·rw[if_neg e]
      have:(Lit.string t).sameKey (.string x.data.toList)=false:=by simpa[Lit.sameKey]using e
      rw[this]
      simp
    rw[h9]at hmp3
    obtain⟨D',q1,q2⟩:=hmp3
    exact⟨D',q1.mono (by omega),q2⟩
   have HCP3:=hdq hcp3
   have HFW3:=hdq (show Fr NoT w1 w3 from(HFW.out.newer hg1 (Nat.le_succ _)).newer hg3 (lrq _))
   have HME:=hdq (show w3.rangeLeft nb (w1.heap.size+1) < wr.rangeLeft nb (w1.heap.size+1) by
    obtain⟨lf3,cnt3,hr3,_,_⟩:=hcp3
    rw[(hrg1.kept hg3 (by simp;omega) (by simp)).left_eq,hrg.left_eq]
    exact hlt)
   clear hcp3 hmp3 hmp1 hmp hrg hrg1 hfx hat hrd hlk hkey hlt hsz1 hg3 hxm hg1
   go_wp2_with fail
   go_roundw
   case rel=>exact⟨HCP3,HFW3⟩
   case measure=>exact HME.out
end
end Go.Proofs.YtfomomaomggpbaaGreatDoor

namespace Go.Proofs.YtfomomaomggpbaaGreatDoor
open Go.RowKit Go.Shelf

def xsV (n:Bn) (ps:List (List UInt8)):Exs→List (Bs→Ho ⊕ Int)
 | .nil => []
 | .cons k nm m a t r=>valH n ps k nm m t a::xsV n ps r
theorem xsV_len (n:Bn) (ps:List (List UInt8)):∀xs,(xsV n ps xs).length =xs.len
 | .nil =>rfl
 | .cons _ _ _ _ _ r=>by simp only[xsV,Exs.len,List.length_cons,xsV_len n ps r]
theorem xsV_at (n:Bn) (ps:List (List UInt8)):∀(i:Nat) (xs:Exs) {k nm m a t r},Exs.drop i xs= .cons k nm m a t r→(xsV n ps xs)[i]?=some (valH n ps k nm m t a)
 |0,.cons _ _ _ _ _ _,_,_,_,_,_,_,h=>by
  simp only[Exs.drop,Exs.cons.injEq]at h
  obtain⟨rfl,rfl,rfl,rfl,rfl,_⟩:=h
  rfl
 |0,.nil,_,_,_,_,_,_,h=>by simp[Exs.drop]at h
 |i+1,.nil,_,_,_,_,_,_,h=>by simp[Exs.drop]at h
 |i+1,.cons _ _ _ _ _ r,_,_,_,_,_,_,h=>by
  simp only[Exs.drop]at h
  simpa[xsV]using xsV_at n ps i r h
def PVal (C:BgC) (ps:List (List UInt8)) (Xs:List (Bs→Ho ⊕ Int)):RowP:=fun i v lo hi w=>∃X,Xs[i]?=some X∧ValP C ps v X lo hi w
theorem PVal.st {C:BgC} {ps:List (List UInt8)} {Xs:List (Bs→Ho ⊕ Int)}:RwS C (PVal C ps Xs):=fun i v lo hi w w' hl h=>by
 obtain⟨X,h1,h2⟩:=h
 exact⟨X,h1,h2.later hl⟩
def PmS (g p b:Nat) (P:Option Addr) (v v0 v1 v2 v3 v4:Value) (W:World):Prop:=W.cell? ⟨g,0,none⟩=some v∧W.cell? ⟨p,0,none⟩=some (.pointer P)∧W.cell? ⟨b,0,none⟩=some v0∧W.cell? ⟨b,1,none⟩=some v1∧W.cell? ⟨b,2,none⟩=some v2∧W.cell? ⟨b,3,none⟩=some v3∧W.cell? ⟨b,4,none⟩=some v4
theorem infoVal9:(Tryz.prog.info? 278).map (fun i=>(i.zero,i.size,i.bytes))=some (some .nilFunc,1,8):=by kernel_rfl
abbrev stW (W:World) (C:BgC) (k:Int) (nm:ByteArray) (A2 A3 A4 A5:Option Addr) (l2 c2 l3 c3 l4 c4 l5 c5:Nat) (at_:Int):World:=(W.alloc (.cells #[.pointer (some ⟨C.P,0,none⟩)] 69)).alloc (.cells (bgStC k nm A2 A3 A4 A5 l2 c2 l3 c3 l4 c4 l5 c5 at_) 51)
def MkD (C:BgC) (ps:List (List UInt8)) (D:DoR) (W:World) (e:Ending) (w':World):Prop:=∃val,e= .returned val∧Fr NoT W w'∧DoP C ps val D W.heap.size w'.heap.size w'
theorem Bk.newsK {w:World} {g:Nat} {t:TypeId} {u:Value} (h:Bk w g t #[u]):∀j x,([u]:List Value)[j]?=some x→w.cell? ((⟨g,0,none⟩:Addr).add j)=some x:=World.news_of_block (cs:= #[u]) (fr:=(0,0)) (t:=t) h
theorem put_make (C:BgC) (ps:List (List UInt8)) (ho:C.Ok) (k:Int) (nm:ByteArray) (args:Exs) (at_:Int) (hX:∀i k0 n0 m0 a0 t0 r0,Exs.drop i args= .cons k0 n0 m0 a0 t0 r0→ExpC C ps k0 n0 m0 a0 t0) (D:DoR) (W:World) (S:Nat→Prop) (Z:Prop) (A2 A3 A4 A5:Option Addr) (c2 l3 c3 l4 c4 l5 c5:Nat) (hT:C.T≤W.heap.size) (hpg:PgAt C W) (hS:∀x,S x→x < C.B) (hx:SlR (fun b o=>ExR W S Z args b o) args.len 64 A2 c2)
  (hD:∀w' x A c vs,Fr NoT W w'→Bx W.heap.size w'.heap.size w' W.heap.size 69 #[.pointer (some ⟨C.P,0,none⟩)]→Bx W.heap.size w'.heap.size w' (W.heap.size+1) 51 (bgStC k nm A2 A3 A4 A5 args.len c2 l3 c3 l4 c4 l5 c5 at_)→Bx W.heap.size w'.heap.size w' x 276 #[.slice A args.len c]→RowF W.heap.size w'.heap.size w' A c vs→vs.length=args.len→
   (∀(i:Nat) u X,vs[i]?=some u→(xsV C.n ps args)[i]?=some X→ValP C ps u X W.heap.size w'.heap.size w')→DoP C ps (.func (.func 176) #[] #[.pointer (some ⟨W.heap.size,0,none⟩),.pointer (some ⟨W.heap.size+1,0,none⟩),.pointer (some ⟨x,0,none⟩)]) D W.heap.size w'.heap.size w'):
  Calls Tryz.prog 105 #[.pointer (some ⟨C.P,0,none⟩),.agg (bgStC k nm A2 A3 A4 A5 args.len c2 l3 c3 l4 c4 l5 c5 at_)] W (MkD C ps D W):=by
 obtain⟨i1,hi1,hz1,hs1,hb1⟩:=info_parts infoVal9
 obtain⟨n,hn⟩:=nmq args.len
 have hnm:n*64≤140737488355328:=by rw[hn];exact hx.2.1.2
 have hBW:C.B≤W.heap.size:=by have h1:=ho.br;have h2:=ho.rT;omega
 have hpl:∀w',Fr NoT W w'→PgAt C w':=fun w' hf=>hpg.later ho (Later.of0 (lo:=0) (hi:=0) hf (Nat.zero_le _) hT)
 have hsm:∀w',Fr NoT W w'→SameS S W w':=fun w' hf=>hf.same fun b hb=>⟨ltq (hS b hb) hBW,id⟩
 obtain⟨w2,hw2⟩:=nmq (stW W C k nm A2 A3 A4 A5 n c2 l3 c3 l4 c4 l5 c5 at_)
 have hf2:Fr NoT W w2:=by rw[hw2];exact((Fr.refl _ _).alloc _).alloc _
 have hkp:Bk w2 W.heap.size 69 #[.pointer (some ⟨C.P,0,none⟩)]:=by rw[hw2];exact(Bk.new _ _ _).alloc _
 have hkq:Bk w2 (W.heap.size+1) 51 (bgStC k nm A2 A3 A4 A5 n c2 l3 c3 l4 c4 l5 c5 at_):=by rw[hw2];exact Bk.new_at _ _ _ (by simp)
 have hsz2:w2.heap.size=W.heap.size+2:=by rw[hw2];simp
 obtain⟨w3,hw3⟩:=nmq (w2.alloc (.cells #[.slice none 0 0] 276))
 have hm3:MkL C w2 w3 w2.heap.size 276 278 (.slice none 0 0) [] (PVal C ps (xsV C.n ps args)):=MkL.zero (by rw[hw3];exact(Fr.refl _ _).alloc _) (lrq _) (by rw[hw3];exact Bk.new _ _ _)
 have q2:=(hkq.fr0 hm3.fr).cell 2
 simp only[bgStC,List.getElem?_toArray,List.getElem?_cons_succ,List.getElem?_cons_zero]at q2
 have HX:=hdq hx
 have HIH:=hdq hX
 have HPL:=hdq hpl
 have HSM:=hdq hsm
 have HS:=hdq hS
 have HD:=hdq hD
 have HT:=hdq hT
 have HKP:=hdq hkp
 have HKQ:=hdq hkq
 have HF2:=hdq hf2
 have HM3:=hdq hm3
 have HN:=hdq hn
 have HI:=hdq (aiq hi1 (aiq hz1 (aiq hs1 hb1)))
 have HBW:=hdq hBW
 unfold stW at hw2
 rw[hw2]at hw3
 have HW3:=hdq hw3
 have HSZ:=hdq hsz2
 rw[hsz2]at HM3
 have HSZ3:=hdq (show W.heap.size+2 < w3.heap.size by have:=hm3.bk.lt;omega)
 rw[←hn]
 clear hx hX hpl hsm hS hD hT hkp hkq hf2 hm3 hn hi1 hz1 hs1 hb1 hBW hw3 hsz2 hw2 hpg
 have hn1:n≤9223372036854775807:=by omega
 go_enter Tryz.func105,Tryz.ntmps105
 go_wp2_with fail
 rw[←HW3.out]
 go_wp2_with fail
 go_loopw [11] (fun i wr=>∃(k':Nat) (v:Value) (vs:List Value),k'≤n∧i= .int .i64 k'∧Hid (MkL C w2 wr (W.heap.size+2) 276 278 v vs (PVal C ps (xsV C.n ps args)))∧vs.length=k') (fun i _=>n - (intOf i).toNat)
 case atStart=>exact⟨0,_,_,Nat.zero_le _,rfl,HM3,rfl⟩
 case round=>
  clear q2 HM3
  obtain⟨k',v,vs,hk,rfl,HM,hvl⟩:=hrel
  have HVL:=hdq hvl
  by_cases hlt:k' < n
  ·have hla:k' < args.len:=by rw[←HN.out];exact hlt
   obtain⟨b0,o0,rfl,hat⟩:=HX.out.2.2 (by omega)
   obtain⟨k0,n0,m0,a0,t0,r0,hdr⟩:=Exs.drop_cons hla
   have hfW:=HF2.out.trans HM.out.fr
   have hat1:=ExR.drop k' (ExR.keep (HSM.out wr hfW) hat)
   rw[hdr]at hat1
   obtain⟨⟨hbS,_,_,hm0,_,e0,e1,e2,e4⟩,⟨A1,c1,e3,s1⟩,_⟩:=hat1
   obtain⟨l1,hl1⟩:=nmq a0.len
   rw[←hl1]at e3
   have hXe:=xsV_at C.n ps k' args hdr
   have hcall:=HIH.out k' _ _ _ _ _ _ hdr
   have hlt':(k':Int) < (n:Int):=by omega
   have hbl:b0 < wr.heap.size:=ltq (ltq (HS.out _ hbS) HBW.out) hfW.size
   obtain⟨w4,hw4⟩:=nmq (wr.alloc (.cells #[.int .u8 k0,.string n0,.int .i64 m0,.slice A1 l1 c1,.int .i64 t0] 175))
   have hf4:Fr NoT wr w4:=by rw[hw4];exact(Fr.refl _ _).alloc _
   have hk4:Bk w4 wr.heap.size 175 #[.int .u8 k0,.string n0,.int .i64 m0,.slice A1 l1 c1,.int .i64 t0]:=by rw[hw4];exact Bk.new _ _ _
   have hT2:C.T≤w2.heap.size:=leq9 HT.out HF2.out.size
   have HT2:=hdq hT2
   have hm4:=HM.out.fr0 PVal.st hT2 hf4.drew
   have HS4:=hdq (show ∀w',Fr NoT w4 w'→PmS (W.heap.size+2) W.heap.size wr.heap.size (some ⟨C.P,0,none⟩) v (.int .u8 k0) (.string n0) (.int .i64 m0) (.slice A1 l1 c1) (.int .i64 t0) w' from fun w' hf=>
    ⟨((HM.out.bk.fr0 hf4).fr0 hf).cell 0,(((HKP.out.fr0 HM.out.fr).fr0 hf4).fr0 hf).cell 0,(hk4.fr0 hf).cell 0,(hk4.fr0 hf).cell 1,(hk4.fr0 hf).cell 2,(hk4.fr0 hf).cell 3,(hk4.fr0 hf).cell 4⟩)
   have HC4:=hdq (show ∀w',Fr NoT w4 w'→_ from fun w' hf=>hcall w' S Z A1 c1 (leq9 HT.out (hfW.trans (hf4.trans hf)).size) (HPL.out w' (hfW.trans (hf4.trans hf))) HS.out hm0 (s1.imp fun _ _ hx=>ExR.keep ((hf4.trans hf).same fun b hb=>⟨ltq (ltq (HS.out b hb) HBW.out) hfW.size,id⟩) hx))
   rw[←hl1]at HC4
   have HM4:=hdq hm4
   have HW4:=hdq hw4
   have HXE:=hdq hXe
   clear hat hfW hm0 s1 hl1 hXe hcall hw4 hf4 hk4 hm4 hdr hla hT2 HM
   go_wp2_with fail
   rw[←HW4.out]
   refine wp_region_E (PmS (W.heap.size+2) W.heap.size wr.heap.size (some ⟨C.P,0,none⟩) v (.int .u8 k0) (.string n0) (.int .i64 m0) (.slice A1 l1 c1) (.int .i64 t0)) (fun i=>decide (i < 5)) (by kernel_rfl) (HS4.out _ (Fr.refl _ _).drew) (fun hHeld=>?_)
   refine wpE_tv 0 hHeld ?_
   try simp only[Act.put,List.setIfInBounds_toArray,List.set_cons_zero,List.set_cons_succ]
   refine wpE_tv 1 hHeld ?_
   try simp only[Act.put,List.setIfInBounds_toArray,List.set_cons_zero,List.set_cons_succ]
   refine wpE_tv 2 hHeld ?_
   try simp only[Act.put,List.setIfInBounds_toArray,List.set_cons_zero,List.set_cons_succ]
   refine wpE_next 3 rfl (by kernel_rfl) (fun KK hK=>?_)
   go_simp
   go_at_call 175
   refine(HC4.out _ (Fr.refl NoT w4).drew).mono ?_
   rintro _ w5 ⟨u,rfl,hf5,hv5⟩
   obtain⟨gg,cps,rfl⟩:=hv5.func
   have HF5:=hdq hf5
   have HV5:=hdq hv5
   have HS5:=hdq (HS4.out _ ((Fr.refl NoT w4).drew.trans hf5))
   clear hf5 hv5
   try dsimp only
   refine hK _ _ (fun _ _=>HS5.out) ?_
   clear hK KK
   try simp only[Act.put,List.setIfInBounds_toArray,List.set_cons_zero,List.set_cons_succ]
   refine wpE_next 4 rfl (by kernel_rfl) (fun KK hK=>?_)
   go_simp
   obtain⟨w6,hw6⟩:=nmq (w5.alloc (.cells #[.func (.func gg) #[] cps] 278))
   rw[←hw6]
   have hf6:Fr NoT w5 w6:=by rw[hw6];exact(Fr.refl _ _).alloc _
   have hk6:Bk w6 w5.heap.size 278 #[.func (.func gg) #[] cps]:=by rw[hw6];exact Bk.new _ _ _
   have hs6:w6.heap.size=w5.heap.size+1:=by rw[hw6];simp
   have HS6:=hdq (HS4.out _ (((Fr.refl NoT w4).drew.trans HF5.out).trans hf6))
   have hm6:=(HM4.out.fr0 PVal.st HT2.out HF5.out).fr0 PVal.st HT2.out hf6
   have HM6:=hdq hm6
   have HK6:=hdq hk6
   have HW6:=hdq hw6
   have HS66:=hdq hs6
   clear hw6 hf6 hk6 hs6 hm6
   try dsimp only
   refine hK _ _ (fun _ _=>HS6.out) ?_
   clear hK KK
   try simp only[Act.put,List.setIfInBounds_toArray,List.set_cons_zero,List.set_cons_succ]
   refine wpE_next 5 rfl (by kernel_rfl) (fun KK hK=>?_)
   refine step_append_lies _ (by rfl) _ _ _ (by rfl) (W.heap.size+2+1) 278 i1 .nilFunc 1 8 Tryz.underlying276 HI.out.1 HI.out.2.1 HI.out.2.2.1 HI.out.2.2.2 rfl (by decide) v vs.length vs (by rfl) HM6.out.row
    ⟨w5.heap.size,0,none⟩ 1 1 [.func (.func gg) #[] cps] (by rfl) (by rfl) HK6.out.newsK (by simp[Value.oneCell']) (by omega) ?c63 ?cby ?cba (w5.heap.size+1) HS66.out ?_
   case c63=>have:=HVL.out;unfold maxLen;omega
   case cby=>have:=HVL.out;omega
   case cba=>have h1:=HM6.out.bk.lt;omega
   intro gg7 cap w7 hown hgrow hsp hlt7
   have hgrow':=hgrow
   rw[HW6.out]at hgrow'
   have hst:=HM4.out.step PVal.st HT2.out HF5.out ⟨_,by rw[HVL.out];exact HXE.out,HV5.out⟩ hown hgrow' (by
    rcases hsp with e|e
    ·exact .inl e.symm
    ·exact .inr (by rw[e];rfl))
   have hneg:some (W.heap.size+2)≠v.ownBlock:=fun e=>by have:=HM6.out.row.lt _ e.symm;omega
   have f7:=(hgrow.frozen_far ⟨W.heap.size+2,0,none⟩ HM6.out.bk.lt hneg).trans (HM6.out.bk.frozen 0)
   have c7:=(hgrow.cell_far ⟨W.heap.size+2,0,none⟩ HM6.out.bk.lt hneg).trans (HM6.out.bk.cell 0)
   have l7:W.heap.size+2 < w7.heap.size:=ltq HM6.out.bk.lt hgrow.size
   have HST:=hdq hst
   simp only[List.getElem?_toArray,List.getElem?_cons_succ,List.getElem?_cons_zero]at c7
   clear hown hgrow hgrow' hsp hst hneg hHeld
   try dsimp only
   refine hK _ _ (fun h=>absurd h (by decide)) ?_
   clear hK KK
   try simp only[Act.put,List.setIfInBounds_toArray,List.set_cons_zero,List.set_cons_succ]
   refine wpE_next 6 rfl (by kernel_rfl) (fun KK hK=>?_)
   go_simp
   refine hK _ _ (fun h=>absurd h (by decide)) ?_
   clear hK KK
   try simp only[Act.put,List.setIfInBounds_toArray,List.set_cons_zero,List.set_cons_succ]
   refine wpE_done (by kernel_rfl) ?_
   clear c7 f7 l7 e0 e1 e2 e3 e4
   go_wp2_with fail
   go_roundw
   case rel=>exact⟨k'+1,_,_,by omega,by go_num,hdq (by have h9:=HST.out;rw[HVL.out]at h9;exact h9),by rw[List.length_append,HVL.out];rfl⟩
   case measure=>simp[intOf];omega
  ·have hge:¬(k':Int) < (n:Int):=by omega
   obtain⟨A,c,rfl,hrow⟩:=HM.out.rowF
   have hfW:=HF2.out.trans HM.out.fr
   have hkn:vs.length=n:=by omega
   have h2:=HF2.out.size
   have hr:=HD.out wr (W.heap.size+2) A c vs hfW ⟨HKP.out.fr0 HM.out.fr,lrq _,(HKP.out.fr0 HM.out.fr).lt⟩ (by rw[←HN.out];exact⟨HKQ.out.fr0 HM.out.fr,Nat.le_succ _,(HKQ.out.fr0 HM.out.fr).lt⟩) (by rw[←HN.out,←hkn];exact⟨HM.out.bk,by omega,HM.out.bk.lt⟩) ⟨hrow.1,hrow.2.1,fun hp=>by
     obtain⟨b,e,g1,g2,g3⟩:=hrow.2.2 hp
     exact⟨b,e,leq9 h2 g1,g2,g3⟩⟩ (by rw[hkn];exact HN.out) (fun i u X hu hX=>by
     obtain⟨lo,hi,⟨X',e,hv⟩,g1,g2,_⟩:=HM.out.vals i u hu
     rw[hX]at e
     obtain rfl:=Option.some.inj e
     exact hv.wide (leq9 h2 g1) g2)
   have HR:=hdq (show MkD C ps D W _ wr from⟨_,rfl,hfW,hr⟩)
   clear hr hrow hfW HM hkn h2
   go_wp2_with fail
   go_ret
   exact HR.out
end Go.Proofs.YtfomomaomggpbaaGreatDoor
