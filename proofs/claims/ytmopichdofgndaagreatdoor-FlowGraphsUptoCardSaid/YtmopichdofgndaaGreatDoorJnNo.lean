/- Plain laws of inlining: no calls are left; how many statements there are; new names are apart. -/
import Derived.Test.YtmopichdofgndaaGreatDoorJnCl
import Derived.Lib.ItoaLen
set_option linter.all false
namespace Go.Proofs.YtmopichdofgndaaGreatDoor
open Go.RowKit Go.Shelf Go.Maps
def cntS:Sts->Nat
 | .nil =>0
 | .cons _ _ _ _ body els _ r=>1+cntS body+cntS els+cntS r
def anyS:Sts->Bool
 | .nil =>false
 | .cons k _ _ _ body els _ r=>anyS body || anyS els || k==9 || anyS r
theorem zff:∀(xs ys:Sts),cntS (Sts.app xs ys)=cntS xs+cntS ys
 | .nil,ys=>by simp[Sts.app,cntS]
 | .cons _ _ _ _ body els _ r,ys=>by simp only[Sts.app,cntS,zff r ys];omega
theorem zfg:∀(xs ys:Sts),anyS (Sts.app xs ys)=(anyS xs || anyS ys)
 | .nil,ys=>by simp[Sts.app,anyS]
 | .cons _ _ _ _ body els _ r,ys=>by simp only[Sts.app,anyS,zfg r ys,Bool.or_assoc]
theorem zf7 (p:ByteArray)(c:Nat)(n:Nms)(at_:Int):∀(vs:List Va)(xs:Exs),anyS (zby p c n at_ vs xs)=false
 |v::vs,.cons k nm m a b r=>by simp[zby,anyS,zf7 p c n at_ vs r]
 |v::vs,.nil =>by simp[zby,anyS]
 | [],_=>by simp[zby,anyS]
theorem zf8 (p:ByteArray)(c:Nat)(n:Nms)(at_:Int):∀(vs:List Va)(xs:Exs),vs.length=xs.len->cntS (zby p c n at_ vs xs)=vs.length
 |v::vs,.cons k nm m a b r,h=>by
  have:=zf8 p c n at_ vs r (by simpa[Exs.len]using h);simp only[zby,cntS,this,List.length_cons];omega
 |v::vs,.nil,h=>by simp[Exs.len]at h
 | [],_,h=>by simp[zby,cntS]
theorem zbK {call:ByteArray->Exs->Nms->Int->Ist->Sts×Ist}(hc:∀nm args n at_ s,anyS (call nm args n at_ s).1 =false):∀(xs:Sts)(n:Nms)(s:Ist),anyS (inlS call xs n s).1 =false
 | .nil,n,s=>rfl
 | .cons k nm args cond body els at_ r,n,s=>by
  unfold inlS;split
  ·rfl
  split
  ·simp only[zfg,hc,zbK hc r,Bool.or_self]
  ·rename_i h1 h2;simp only[anyS,zbK hc r,zbK hc body,zbK hc els,Bool.or_false,Bool.false_or];simpa using h2
theorem zf9 (procs:List UInt8->Option Prc):∀(f:Nat)(xs:Sts)(n:Nms)(s:Ist),anyS (inlF procs f xs n s).1 =false
 |0,xs,n,s=>zbK (λ_ _ _ _ _=>rfl) xs n s
 |f+1,xs,n,s=>zbK (λnm args n at_ s=>by
  unfold zcR;cases procs nm.data.toList with
  |none=>rfl
  |some x=>simp only[zfg,zf9 procs f,anyS,zf7,Bool.or_self,Bool.or_false,beq_eq_false_iff_ne,ne_eq];decide) xs n s
theorem zbn {procs:List UInt8->Option Prc}{low:Sts->Prop}{call:ByteArray->Exs->Nms->Int->Ist->Sts×Ist}(hc:∀(nm:ByteArray) args n at_ s,(∃x,procs nm.data.toList=some x/\x.params.length=args.len/\low x.body)->(call nm args n at_ s).2.many =s.many+cntS (call nm args n at_ s).1):
  ∀(xs:Sts)(n:Nms)(s:Ist),LvB procs low xs->(inlS call xs n s).2.many =s.many+cntS (inlS call xs n s).1
 | .nil,n,s,_=>rfl
 | .cons k nm args cond body els at_ r,n,s,⟨h0,h1,h2,h3⟩=>by
  unfold inlS;split
  ·rfl
  split
  ·rename_i _ h9;have a:=hc nm args n at_ s (h0 h9);have b:=zbn hc r n (call nm args n at_ s).2 h3;simp only[zff];omega
  ·have a:=zbn hc body n ⟨s.calls,s.vars,s.many+1⟩ h1;have b:=zbn hc els n (inlS call body n ⟨s.calls,s.vars,s.many+1⟩).2 h2;have c:=zbn hc r n (inlS call els n (inlS call body n ⟨s.calls,s.vars,s.many+1⟩).2).2 h3;simp only[cntS]at a b c ⊢;omega
theorem zeB (procs:List UInt8->Option Prc):∀(f:Nat)(xs:Sts)(n:Nms)(s:Ist),Lv procs f xs->(inlF procs f xs n s).2.many =s.many+cntS (inlF procs f xs n s).1
 |0,xs,n,s,h=>zbn (procs:=procs) (low:=λ_=>False) (λ_ _ _ _ _ ⟨_,_,_,h⟩=>h.elim) xs n s h
 |f+1,xs,n,s,h=>zbn (procs:=procs) (low:=Lv procs f) (λnm args n at_ s ⟨x,e,hl,Fx⟩=>by
  unfold zcR;rw[e];have a:=zeB procs f x.body (ownN x.nm (s.calls+1) x.params λ_=>none) ⟨s.calls+1,s.vars++x.params.map (λv=>⟨parN x.nm (s.calls+1) v.nm,v.at_⟩),s.many+(x.params.length+1)⟩ Fx;simp only[zff,cntS,zf8 _ _ _ _ _ _ hl]at a ⊢;omega) xs n s h
/-! ### names -/
def dotF (b:ByteArray):Prop:=(46:UInt8)∉b.data.toList
theorem zdU:∀ {l l' r r':List UInt8},(46:UInt8)∉l->(46:UInt8)∉l'->l++46::r=l'++46::r'->l=l'/\r=r'
 | [], [],r,r',_,_,h=>⟨rfl,by simpa using h⟩
 | [],x::l',r,r',_,h',h=>by
  simp only[List.nil_append,List.cons_append,List.cons.injEq]at h;exact absurd h.1 (λe=>h' (by simp[<-e]))
 |x::l, [],r,r',h',_,h=>by
  simp only[List.nil_append,List.cons_append,List.cons.injEq]at h;exact absurd h.1 (λe=>h' (by simp[e]))
 |x::l,y::l',r,r',hl,Pn,h=>by
  simp only[List.cons_append,List.cons.injEq]at h;have:=zdU (l:=l) (l':=l') (λm=>hl (by simp[m])) (λm=>Pn (by simp[m])) h.2;exact⟨by rw[h.1,this.1],this.2⟩
theorem zih (u:Nat):zm2 (Lib.decDigits u):=by
 induction u using Nat.strongRecOn with
 |_ u ih=>
  rw[Lib.decDigits];split
  ·intro b hb;simp only[List.mem_singleton]at hb;subst hb;rw[zdp];have:(UInt8.ofNat (48+u)).toNat =48+u:=by simp;omega
   omega
  ·intro b hb;rcases List.mem_append.1 hb with hb|hb
   ·exact ih (u / 10) (by omega) b hb
   ·simp only[List.mem_singleton]at hb;subst hb;rw[zdp];have:(UInt8.ofNat (48+u % 10)).toNat =48+u % 10:=by simp;omega
    omega
theorem zeC (u:Nat):decV (Lib.decDigits u)=u:=by
 induction u using Nat.strongRecOn with
 |_ u ih=>
  rw[Lib.decDigits];split
  ·have:(UInt8.ofNat (48+u)).toNat =48+u:=by simp;omega
   simp only[zlR,zfy,this];simp[decA]
  ·have:(UInt8.ofNat (48+u % 10)).toNat =48+u % 10:=by simp;omega
   have h:=ih (u / 10) (by omega);rw[zlR]at h ⊢;rw[zed,h,this];omega
theorem zga (c:Nat):(46:UInt8)∉Lib.itoa (c:Int):=by
 rw[Lib.itoa_nonneg];intro h;have:=(zdp _).1 (zih c _ h);have h6:(46:UInt8).toNat =46:=by decide
 omega
theorem zlt {c d:Nat}(h:Lib.itoa (c:Int)=Lib.itoa (d:Int)):c=d:=by
 rw[Lib.itoa_nonneg,Lib.itoa_nonneg]at h;rw[<-zeC c,h,zeC]
theorem zb1 (p:ByteArray)(c:Nat)(v:ByteArray):(parN p c v).data.toList =p.data.toList++46::(Lib.itoa (c:Int)++46::v.data.toList):=by
 simp[parN,dotB,ByteArray.data_append]
theorem zhn {p q:ByteArray}{c d:Nat}{u v:ByteArray}(hp:dotF p)(hq:dotF q)(h:(parN p c u).data.toList =(parN q d v).data.toList):p.data.toList=q.data.toList/\c=d/\u.data.toList=v.data.toList:=by
 rw[zb1,zb1]at h;obtain⟨h1,h2⟩:=zdU hp hq h;obtain⟨h3,h4⟩:=zdU (zga c) (zga d) h2;exact⟨h1,zlt h3,h4⟩
theorem zgb {p:UInt8->Bool}:∀ {l:List UInt8},runB p l=l.length->∀b∈l,p b=true
 | [],_,b,hb=>by simp at hb
 |x::r,h,b,hb=>by
  unfold runB at h;by_cases hx:p x=true
  ·rw[List.takeWhile_cons_of_pos hx]at h;rcases List.mem_cons.1 hb with rfl|hb
   ·exact hx
   ·exact zgb (l:=r) (by unfold runB;simpa using h) b hb
  ·rw[List.takeWhile_cons_of_neg hx]at h;simp at h
theorem zgc {b:ByteArray}(h:zak b.data.toList=true):dotF b:=λhm=>by
 unfold zak at h;simp only[Bool.and_eq_true,beq_iff_eq]at h;have:=zgb h.1.1.1.1 _ hm;simp[isWd,zea,zbz]at this
theorem zgO (p:ByteArray)(c:Nat)(v:ByteArray):zak (parN p c v).data.toList =false:=by
 cases h:zak (parN p c v).data.toList with
 |false=>rfl
 |true=>exact absurd (zgc h) (λhd=>hd (by rw[zb1];simp))
structure NewsOk (a b:Nat)(news:List Va):Prop where
 mem:∀v∈news,∃(x u:ByteArray)(c:Nat),a < c/\c<=b/\dotF x/\v.nm=parN x c u/\x.size<=16/\u.size<=16
 apart:(nmV news).Nodup
theorem NewsOk.nil (a b:Nat):NewsOk a b []:=⟨by simp,by simp[nmV]⟩
theorem NewsOk.app {a b c:Nat}{l m:List Va}(LM:a<=b)(XJ:b<=c)(hl:NewsOk a b l)(hm:NewsOk b c m):NewsOk a c (l++m):=by
 refine⟨λv hv=>?_,?_⟩
 ·rcases List.mem_append.1 hv with hv|hv
  ·obtain⟨x,u,d,h1,h2,h3⟩:=hl.mem v hv;exact⟨x,u,d,h1,by omega,h3⟩
  ·obtain⟨x,u,d,h1,h2,h3⟩:=hm.mem v hv;exact⟨x,u,d,by omega,h2,h3⟩
 ·unfold nmV;rw[List.map_append,List.nodup_append];refine⟨hl.apart,hm.apart,λy hy z hz e=>?_⟩;obtain⟨v,hv,rfl⟩:=List.mem_map.1 hy;obtain⟨v',TM,rfl⟩:=List.mem_map.1 hz;obtain⟨x,u,d,h1,h2,h3,h4,_⟩:=hl.mem v hv;obtain⟨x',u',d',XI,gN,YO,YP,_⟩:=hm.mem v' TM;rw[h4,YP]at e;have:=(zhn h3 YO e).2.1;omega
def NewsP (s s':Ist):Prop:=s.calls<=s'.calls/\s'.calls+s.many<=s.calls+s'.many/\∃news,s'.vars=s.vars++news/\NewsOk s.calls s'.calls news
theorem NewsP.refl (s:Ist):NewsP s s:=⟨lrq _,lrq _, [],by simp,NewsOk.nil _ _⟩
theorem NewsP.trans {a b c:Ist}(h:NewsP a b)(k:NewsP b c):NewsP a c:=by
 obtain⟨h1,Rx,l,h2,h3⟩:=h;obtain⟨k1,km1,m,k2,k3⟩:=k;exact⟨leq9 h1 k1,by omega,l++m,by rw[k2,h2,List.append_assoc],h3.app h1 k1 k3⟩
theorem zbh {call:ByteArray->Exs->Nms->Int->Ist->Sts×Ist}(hc:∀nm args n at_ s,NewsP s (call nm args n at_ s).2):∀(xs:Sts)(n:Nms)(s:Ist),NewsP s (inlS call xs n s).2
 | .nil,n,s=>NewsP.refl s
 | .cons k nm args cond body els at_ r,n,s=>by
  unfold inlS;split
  ·exact NewsP.refl s
  split
  ·exact(hc _ _ _ _ _).trans (zbh hc r n _)
  ·have a:=zbh hc body n ⟨s.calls,s.vars,s.many+1⟩;have a':NewsP s (inlS call body n ⟨s.calls,s.vars,s.many+1⟩).2 :=⟨a.1,by have:=a.2.1;simp only at this;omega,a.2.2⟩;exact(a'.trans (zbh hc els n _)).trans (zbh hc r n _)
def zdV (procs:List UInt8->Option Prc):Prop:=∀y x,procs y=some x->dotF x.nm/\(nmV x.params).Nodup /\x.nm.size<=16/\∀v∈x.params,v.nm.size<=16
theorem zeD {procs:List UInt8->Option Prc}(hp:zdV procs){stm:Sts->Nms->Ist->Sts×Ist}(hs:∀xs n s,NewsP s (stm xs n s).2)(nm:ByteArray)(args:Exs)(n:Nms)(at_:Int)(s:Ist):NewsP s (zcR procs stm nm args n at_ s).2 :=by
 unfold zcR;cases e:procs nm.data.toList with
 |none=>exact NewsP.refl s
 |some x=>
  obtain⟨h1,h2,Gh,Gn⟩:=hp _ _ e;have h3:=hs x.body (ownN x.nm (s.calls+1) x.params λ_=>none) ⟨s.calls+1,s.vars++x.params.map (λv=>⟨parN x.nm (s.calls+1) v.nm,v.at_⟩),s.many+(x.params.length+1)⟩;refine NewsP.trans ?_ h3;refine⟨Nat.le_succ _,by simp only;omega,_,rfl,⟨λv hv=>?_,?_⟩⟩
  ·obtain⟨u,hu,rfl⟩:=List.mem_map.1 hv;exact⟨x.nm,u.nm,s.calls+1,Nat.lt_succ_self _,lrq _,h1,rfl,Gh,Gn u hu⟩
  ·unfold nmV at h2 ⊢;rw[List.map_map];rw[List.nodup_iff_pairwise_ne,List.pairwise_map]at h2 ⊢;exact h2.imp λ{u v} xp e=>xp (zhn h1 h1 e).2.2
theorem zdW {procs:List UInt8->Option Prc}(hp:zdV procs):∀(f:Nat)(xs:Sts)(n:Nms)(s:Ist),NewsP s (inlF procs f xs n s).2
 |0,xs,n,s=>zbh (λ_ _ _ _ s=>NewsP.refl s) xs n s
 |f+1,xs,n,s=>zbh (zeD hp (zdW hp f)) xs n s
theorem zeE:∀ {xs:List Prc} {kn:Kn},zgA xs kn->∀x∈xs,(nmV x.params).Nodup
 | [],_,_,_,h=>by simp at h
 |p::r,kn,⟨⟨_,h2,_⟩,h4⟩,x,hx=>by
  rcases List.mem_cons.1 hx with rfl|hx
  ·exact(freshL_iff.1 h2).2
  ·exact zeE h4 x hx
theorem zho {t:Tre}(h:OkT t):zdV (zaj t.procs):=λy x e=>by
 obtain⟨hx,_⟩:=zbd e;have ht:=h.tree;unfold okTr okPs zbm at ht;simp only[Bool.and_eq_true,List.all_eq_true]at ht;have hs:∀ {b:ByteArray},zak b.data.toList=true->b.size<=16:=λ{b} h=>by
  unfold zak at h;simp only[Bool.and_eq_true,decide_eq_true_eq,beq_iff_eq]at h;have h1:=h.1.1.1.1;have h2:=h.1.1.2;rw[zbl]at h1;omega
 exact⟨zgc (ht.2 x hx).1.1,zeE h.each x hx,hs (ht.2 x hx).1.1,λv hv=>hs (by have:=(ht.2 x hx).1.2;unfold okVs zbL at this;simp only[List.all_eq_true]at this;exact this v hv)⟩
theorem zfh {t:Tre}(h:OkT t)(hf:zaT (inlQ t).2 =false):
  anyS (inlQ t).1 =false/\cntS (inlQ t).1 <=256/\(inlQ t).2.vars.length <=32/\∃news,(inlQ t).2.vars =t.vars++news/\(∀v∈news,zak v.nm.data.toList=false)/\(nmV (t.vars++news)).Nodup /\∀v∈news,v.nm.size<=64:=by
 have hc:=zeB (zaj t.procs) t.procs.length t.main (λ_=>none) ⟨0,t.vars,0⟩ (ze2 h);obtain⟨_,Js,news,hn,G9⟩:=zdW (zho h) t.procs.length t.main (λ_=>none) ⟨0,t.vars,0⟩;have hm:(inlQ t).2.many =0+cntS (inlQ t).1 :=hc;unfold zaT at hf;simp only[Bool.or_eq_false_iff,decide_eq_false_iff_not]at hf;have PA:∀v∈news,zak v.nm.data.toList=false:=λv hv=>by
  obtain⟨x,u,c,_,_,_,e,_⟩:=G9.mem v hv;rw[e];exact zgO _ _ _
 refine⟨zf9 _ _ _ _ _,by omega,by omega,news,hn,PA,?_,λv hv=>?_⟩;rotate_left
 ·obtain⟨x,u,c,_,KG,_,e,h1,h2⟩:=G9.mem v hv;have hq:c<=256:=by
   have a1:(inlQ t).2.calls +0<=0+(inlQ t).2.many :=Js;have a2:c<=(inlQ t).2.calls :=KG;omega
  have h3:=Lib.itoa_length_le (c:Int) (by omega) (by omega);have h4:v.nm.size=x.size+(((Lib.itoa (c:Int)).length +(u.size+1))+1):=by
   rw[e,<-zbl,zb1];simp only[List.length_append,List.length_cons,zbl]
  omega
 unfold nmV;rw[List.map_append,List.nodup_append];refine⟨(freshL_iff.1 h.vars).2,G9.apart,λy hy z hz e=>?_⟩;obtain⟨v,hv,rfl⟩:=List.mem_map.1 hy;obtain⟨v',TM,rfl⟩:=List.mem_map.1 hz;have ht:=h.tree;unfold okTr okVs zbL at ht;simp only[Bool.and_eq_true,List.all_eq_true]at ht;have h1:=ht.1.1.1 v hv;have h2:=PA v' TM;rw[e,h2]at h1;cases h1
