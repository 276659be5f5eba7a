/- A row of one-cell values put behind nothing, and one more behind it. -/
import Derived.Test.YtmopichdofgndaaGreatDoorJgRtNamed
set_option linter.all false
set_option maxHeartbeats 3200000
set_option maxRecDepth 100000
namespace Go.Proofs.YtmopichdofgndaaGreatDoor
open Go.RowKit Go.Shelf
theorem Fr.back0 {a b c:World}(h:Fr NoT a b)(k:Fr (λx=>a.heap.size<=x) b c):Fr NoT a c:=
 ⟨k.os.trans h.os,k.tape.trans h.tape,k.output.trans h.output,leq9 h.size k.size,λi hi _=>(k.block i (ltq hi h.size) (by omega)).trans (h.block i hi id)⟩
theorem zgD {w:World}{xs:List Value}{A:Option Addr}{c:Nat}(h:RwR w xs A c)(h1:∀u∈xs,u.oneCell'=true)(x:Value)(Mv:x.oneCell'=true)(t e:TypeId)(i:TypeInfo)(z:Value)(B:Nat)(ht:Tryz.prog.underlying t=some (.slice e))(hi:Tryz.prog.info? e=some i)(hz:i.zero=some z)(hs:i.size=1)(hB:i.bytes=B)(Lh:z.cells.size=1)(Yl:B<=16)(hn:xs.length<=1000)(t1 t2:TypeId):
  ∃v1 w1 g cap w2,(Builtin.append_ #[t,t] t1 #[.slice none 0 0,.slice A xs.length c]).run Tryz.prog w= .ok v1 w1/\(Builtin.append_ #[t,t] t2 #[v1,.slice (some ⟨w1.heap.size,0,none⟩) 1 1]).run Tryz.prog (w1.alloc (.cells #[x] e))= .ok (.slice (some ⟨g,0,none⟩) (xs.length+1) cap) w2/\
   Fr NoT w w2/\RwR w2 (xs++ [x]) (some ⟨g,0,none⟩) cap/\w.heap.size<=g:=by
 have hm:xs.length<=9223372036854775807:=by omega
 have first:∃v1 w1,(Builtin.append_ #[t,t] t1 #[.slice none 0 0,.slice A xs.length c]).run Tryz.prog w= .ok v1 w1/\w1.ownsRow w.heap.size e 1 v1 xs.length xs/\Fr NoT w w1:=by
  by_cases h0:0 < xs.length
  ·obtain⟨b,rfl,hb,Hd⟩:=h.2.2 h0;obtain⟨v',w',hr,ho,hg,_⟩:=run_append_own (P:=Tryz.prog) w w.heap.size t t1 e i z 1 B ht hi hz hs hB Lh (by decide) (.slice none 0 0) 0 [] (World.ownsRow_nil _ _ _ _) ⟨b,0,none⟩ xs.length c xs (by simp)
    (λj u hj=>by
     have e:(⟨b,0,none⟩:Addr).add j=⟨b,j,none⟩:=by unfold Addr.add;split<;>simp_all
     rw[e];exact Hd j u hj) h1 (by unfold maxLen;omega) (by have:=Nat.mul_le_mul hn Yl;simp only[Nat.zero_add];omega) (lrq _)
   exact⟨v',w',hr,by simpa using ho,Fr.grown hg λg e _=>by simp[Value.ownBlock]at e⟩
  ·have UH:xs= []:=by cases xs with|nil=>rfl|cons=>simp at h0
   subst UH;cases A with
   |some a=>
    obtain⟨v',w',hr,ho,hg,_⟩:=run_append_own (P:=Tryz.prog) w w.heap.size t t1 e i z 1 B ht hi hz hs hB Lh (by decide) (.slice none 0 0) 0 [] (World.ownsRow_nil _ _ _ _) a 0 c [] rfl (λj u hj=>by simp at hj) (λu hu=>by simp at hu) (by decide) (by simp) (lrq _);exact⟨v',w',hr,ho,Fr.grown hg λg e _=>by simp[Value.ownBlock]at e⟩
   |none=>
    refine⟨.slice none 0 0,w,?_,World.ownsRow_nil _ _ _ _,Fr.refl _ _⟩;simp[Builtin.append_,run_underlying ht,sizeOf,typeInfo,hi,Builtin.lenOf,Builtin.firstCells]
 obtain⟨v1,w1,J4,vP,Hi⟩:=first
 have hk:=Bk.new w1 e #[x];have K3:Fr NoT w1 (w1.alloc (.cells #[x] e)):=(Fr.refl _ _).alloc _;obtain⟨v',w',hr,jE,hg,_⟩:=run_append_own (P:=Tryz.prog) (w1.alloc (.cells #[x] e)) w.heap.size t t2 e i z 1 B ht hi hz hs hB Lh (by decide) v1 xs.length xs (vP.alloc _) ⟨w1.heap.size,0,none⟩ 1 1 [x] rfl
  (λj u hj=>by
   have:=hk.cell j;have e:(⟨w1.heap.size,0,none⟩:Addr).add j=⟨w1.heap.size,j,none⟩:=by unfold Addr.add;split<;>simp_all
   rw[e,this];simpa using hj) (λu hu=>by simp at hu;rw[hu];exact Mv) (by unfold maxLen;omega) (by have:=Nat.mul_le_mul (show xs.length+1<=1001 by omega) Yl;omega) (leq9 Hi.size K3.size)
 obtain⟨g,cap,rfl,Tp,gA⟩:=jE.form (by omega);have Rv:xs.length+1<=cap/\cap<=9223372036854775807:=by
  rcases jE.2 with⟨h,_⟩|⟨g',cap',cur,h,_,_,h3,h4,_⟩
  ·simp at h
  ·simp only[Value.slice.injEq,Option.some.injEq]at h;obtain⟨_,_,rfl⟩:=h;exact⟨h3,by simpa[maxLen]using h4⟩
 have Gd:Fr (λb=>w.heap.size<=b) (w1.alloc (.cells #[x] e)) w':=Fr.grown hg λg' e _=>(vP.lt g' e).1;refine⟨v1,w1,g,cap,w',J4,hr,Fr.back0 (Hi.trans K3) Gd,⟨by simpa using Rv.1,Rv.2,λ_=>⟨g,rfl,gA,λj u hj=>?_⟩⟩,Tp⟩;have zQ:j < (xs.length+1)*1:=by
  have h1:=(List.getElem?_eq_some_iff.1 hj).1;simp at h1;omega
 rw[jE.cellAt j zQ];exact hj
theorem zk0:(Tryz.prog.info? 9).map (λi=>(i.zero,i.size,i.bytes))=some (some (.string ⟨#[]⟩),1,16):=by kernel_rfl
theorem zk1:(Tryz.prog.info? 3).map (λi=>(i.zero,i.size,i.bytes))=some (some (.int .i64 0),1,8):=by kernel_rfl
theorem zdK:(Tryz.prog.info? 164).map (·.size)=some 3:=by kernel_rfl
theorem RwR.keepT {w w':World}{T:Nat->Prop}{xs:List Value}{g c:Nat}(h:RwR w xs (some ⟨g,0,none⟩) c)(hf:Fr T w w')(hg:¬T g):RwR w' xs (some ⟨g,0,none⟩) c:=
 ⟨h.1,h.2.1,λh0=>by
  obtain⟨b,e,hb,hc⟩:=h.2.2 h0;simp only[Option.some.injEq,Addr.mk.injEq,and_true]at e;subst e;exact⟨g,rfl,ltq hb hf.size,λi u hi=>(hf.cell (p:=⟨g,i,none⟩) hb hg).trans (hc i u hi)⟩⟩
def zh1 (ws:Wl)(x:ByteArray×Int×Int)(W:World)(e:Ending)(w':World):Prop:=∃g1 g2 g3 c1 c2 c3,e= .returned (wdV (ws++ [x]) (some ⟨g1,0,none⟩) (some ⟨g2,0,none⟩) (some ⟨g3,0,none⟩) c1 c2 c3)/\WdR w' (ws++ [x]) (some ⟨g1,0,none⟩) (some ⟨g2,0,none⟩) (some ⟨g3,0,none⟩) c1 c2 c3/\(W.heap.size<=g1/\W.heap.size<=g2/\W.heap.size<=g3)/\Fr NoT W w'
theorem zbZ (ws:Wl)(nm:ByteArray)(kind many:Int)(w:World)(An Ak Am:Option Addr)(cn ck cm:Nat)(hx:WdR w ws An Ak Am cn ck cm)(hn:ws.length<=1000):
  Calls Tryz.prog 153 #[wdV ws An Ak Am cn ck cm,.string nm,.int .i64 kind,.int .i64 many] w (zh1 ws (nm,kind,many) w):=by
 obtain⟨iS,Ym,Yn,Yo,Hf⟩:=info_parts zk0;obtain⟨iI,jF,jG,jH,jI⟩:=info_parts zk1;have hl:ws.length<=9223372036854775807:=by omega
 -- the boxes
 obtain⟨w3,F3⟩:=nmq (((w.alloc (.cells #[.slice An ws.length cn,.slice Ak ws.length ck,.slice Am ws.length cm] 164)).alloc (.cells #[.slice none 0 0,.slice none 0 0,.slice none 0 0] 164)).alloc (.cells #[.slice none 0 0,.slice none 0 0,.slice none 0 0] 164));have GQ:Fr NoT w w3:=by rw[F3];exact(((Fr.refl _ _).alloc _).alloc _).alloc _
 have k4:Bk w3 w.heap.size 164 #[.slice An ws.length cn,.slice Ak ws.length ck,.slice Am ws.length cm]:=by
  rw[F3];exact(Bk.new _ _ _).fr0 (((Fr.refl _ _).alloc _).alloc _)
 have k8:Bk w3 (w.heap.size+1) 164 #[.slice none 0 0,.slice none 0 0,.slice none 0 0]:=by
  rw[F3];have:=(Bk.new (w.alloc (.cells #[.slice An ws.length cn,.slice Ak ws.length ck,.slice Am ws.length cm] 164)) 164 #[.slice none 0 0,.slice none 0 0,.slice none 0 0]).fr0 ((Fr.refl NoT _).alloc (.cells #[.slice none 0 0,.slice none 0 0,.slice none 0 0] 164));simpa using this
 have k9:Bk w3 (w.heap.size+1+1) 164 #[.slice none 0 0,.slice none 0 0,.slice none 0 0]:=by
  rw[F3];have:=Bk.new ((w.alloc (.cells #[.slice An ws.length cn,.slice Ak ws.length ck,.slice Am ws.length cm] 164)).alloc (.cells #[.slice none 0 0,.slice none 0 0,.slice none 0 0] 164)) 164 #[.slice none 0 0,.slice none 0 0,.slice none 0 0];simpa using this
 -- names
 have Yp:∀u∈ws.map (λx:ByteArray×Int×Int=>Value.string x.1),u.oneCell'=true:=by intro u hu;simp only[List.mem_map]at hu;obtain⟨y,_,rfl⟩:=hu;rfl
 have vQ:∀u∈ws.map (λx:ByteArray×Int×Int=>Value.int .i64 x.2.1),u.oneCell'=true:=by intro u hu;simp only[List.mem_map]at hu;obtain⟨y,_,rfl⟩:=hu;rfl
 have vR:∀u∈ws.map (λx:ByteArray×Int×Int=>Value.int .i64 x.2.2),u.oneCell'=true:=by intro u hu;simp only[List.mem_map]at hu;obtain⟨y,_,rfl⟩:=hu;rfl
 obtain⟨v1,wa,g1,c1,w5,J4,JV,Hs,UI,Tp⟩:=zgD (hx.names.keep GQ) Yp (.string nm) rfl 162 9 iS _ 16 Tryz.underlying162 Ym Yn Yo Hf rfl (by decide) (by simpa using hn) 162 162;rw[List.length_map]at J4 JV;have k4a:=k4.fr0 Hs;have k8a:=k8.fr0 Hs;have k9a:=k9.fr0 Hs;have Yq:=GQ.trans Hs;obtain⟨w6,GM⟩:=nmq (w5.setCell ⟨w.heap.size+1+1,0,none⟩ (.slice (some ⟨g1,0,none⟩) (ws.length+1) c1));have Fk:Fr NoT w w6:=by rw[GM];exact Fr.high Yq (by omega) 0 _
 have ft6:Fr (λb=>b=w.heap.size+1\/b=w.heap.size+1+1) w5 w6:=by rw[GM];exact Fr.setCell (Fr.refl _ _) (.inl (.inr rfl)) _
 have k4b:=k4a.far (p:=⟨w.heap.size+1+1,0,none⟩) (by simp;omega) (.slice (some ⟨g1,0,none⟩) (ws.length+1) c1);rw[<-GM]at k4b;have k8b:=k8a.far (p:=⟨w.heap.size+1+1,0,none⟩) (by simp) (.slice (some ⟨g1,0,none⟩) (ws.length+1) c1);rw[<-GM]at k8b;have k9b:=k9a.set_ 0 (.slice (some ⟨g1,0,none⟩) (ws.length+1) c1);rw[<-GM]at k9b
 -- kinds
 obtain⟨v2,wb,g2,c2,w8,Qr,KZ,Gj,UJ,gA⟩:=zgD (hx.kinds.keep Fk) vQ (.int .i64 kind) rfl 50 3 iI _ 8 Tryz.underlying50 jF jG jH jI rfl (by decide) (by simpa using hn) 50 50;rw[List.length_map]at Qr KZ;have k4c:=k4b.fr0 Gj;have k8c:=k8b.fr0 Gj;have k9c:=k9b.fr0 Gj;have Yr:=Fk.trans Gj;obtain⟨w9,FY⟩:=nmq (w8.setCell ⟨w.heap.size+1+1,1,none⟩ (.slice (some ⟨g2,0,none⟩) (ws.length+1) c2));have Gm:Fr NoT w w9:=by rw[FY];exact Fr.high Yr (by omega) 1 _
 have ft9:Fr (λb=>b=w.heap.size+1\/b=w.heap.size+1+1) w8 w9:=by rw[FY];exact Fr.setCell (Fr.refl _ _) (.inl (.inr rfl)) _
 have k4d:=k4c.far (p:=⟨w.heap.size+1+1,1,none⟩) (by simp;omega) (.slice (some ⟨g2,0,none⟩) (ws.length+1) c2);rw[<-FY]at k4d;have k8d:=k8c.far (p:=⟨w.heap.size+1+1,1,none⟩) (by simp) (.slice (some ⟨g2,0,none⟩) (ws.length+1) c2);rw[<-FY]at k8d;have k9d:=k9c.set_ 1 (.slice (some ⟨g2,0,none⟩) (ws.length+1) c2);rw[<-FY]at k9d
 -- how many
 obtain⟨v3,wc,g3,c3,w11,Lr,VV,FC,UK,gG⟩:=zgD (hx.many.keep Gm) vR (.int .i64 many) rfl 50 3 iI _ 8 Tryz.underlying50 jF jG jH jI rfl (by decide) (by simpa using hn) 50 50;rw[List.length_map]at Lr VV;have k8e:=k8d.fr0 FC;have k9e:=k9d.fr0 FC;have NG:=Gm.trans FC;have ft:Fr (λb=>b=w.heap.size+1\/b=w.heap.size+1+1) w11 ((((w11.setCell ⟨w.heap.size+1+1,2,none⟩ (.slice (some ⟨g3,0,none⟩) (ws.length+1) c3)).setCell ⟨w.heap.size+1,0,none⟩ (.slice (some ⟨g1,0,none⟩) (ws.length+1) c1)).setCell ⟨w.heap.size+1,1,none⟩ (.slice (some ⟨g2,0,none⟩) (ws.length+1) c2)).setCell ⟨w.heap.size+1,2,none⟩ (.slice (some ⟨g3,0,none⟩) (ws.length+1) c3)):=
  Fr.setCell (Fr.setCell (Fr.setCell (Fr.setCell (Fr.refl _ _) (.inl (.inr rfl)) _) (.inl (.inl rfl)) _) (.inl (.inl rfl)) _) (.inl (.inl rfl)) _
 have vS:Fr NoT w ((((w11.setCell ⟨w.heap.size+1+1,2,none⟩ (.slice (some ⟨g3,0,none⟩) (ws.length+1) c3)).setCell ⟨w.heap.size+1,0,none⟩ (.slice (some ⟨g1,0,none⟩) (ws.length+1) c1)).setCell ⟨w.heap.size+1,1,none⟩ (.slice (some ⟨g2,0,none⟩) (ws.length+1) c2)).setCell ⟨w.heap.size+1,2,none⟩ (.slice (some ⟨g3,0,none⟩) (ws.length+1) c3)):=
  Fr.high (Fr.high (Fr.high (Fr.high NG (by omega) _ _) (by omega) _ _) (by omega) _ _) (by omega) _ _
 have Kj:w3.heap.size=w.heap.size+1+1+1:=by rw[F3];simp
 have vT:w3.heap.size<=w6.heap.size:=leq9 Hs.size ft6.size;have KJ:w3.heap.size<=w9.heap.size:=leq9 vT (leq9 Gj.size ft9.size);have jJ:=hdq (show WdR _ (ws++ [(nm,kind,many)]) (some ⟨g1,0,none⟩) (some ⟨g2,0,none⟩) (some ⟨g3,0,none⟩) c1 c2 c3 from
  ⟨by rw[List.map_append];exact(((((UI.keepT ft6 (by omega)).keep Gj).keepT ft9 (by omega)).keep FC).keepT ft (by omega)),by rw[List.map_append];exact(((UJ.keepT ft9 (by omega)).keep FC).keepT ft (by omega)),by rw[List.map_append];exact UK.keepT ft (by omega)⟩)
 have PD:=hdq vS;have HG:=hdq (show w.heap.size<=g1/\w.heap.size<=g2/\w.heap.size<=g3 from⟨by omega,by omega,by omega⟩);have k8F:=((((k8e.far (p:=⟨w.heap.size+1+1,2,none⟩) (by simp) (.slice (some ⟨g3,0,none⟩) (ws.length+1) c3)).set_ 0 (.slice (some ⟨g1,0,none⟩) (ws.length+1) c1)).set_ 1 (.slice (some ⟨g2,0,none⟩) (ws.length+1) c2)).set_ 2 (.slice (some ⟨g3,0,none⟩) (ws.length+1) c3));simp only[List.setIfInBounds_toArray,List.set_cons_zero,List.set_cons_succ]at k8F;have Kf:=hdq k8F;have y0:=k9a.cell 0;have y1:=k9a.frozen 0;have y2:=k9a.lt;have z0:=k9c.cell 1;have z1:=k9c.frozen 1;have z2:=k9c.lt;have x0:=k9e.cell 0;have x1:=k9e.cell 1;have x2:=k9e.cell 2;have x3:=k9e.frozen 2;have x4:=k9e.lt;have u0:=k8e.cell 0;have u1:=k8e.cell 1;have u2:=k8e.cell 2;have u3:=k8e.frozen 0;have u4:=k8e.frozen 1;have u5:=k8e.frozen 2;have u6:=k8e.lt;have t1:=k4a.cell 1;have t2:=k4c.cell 2;have t3:=k4a.lt;have t4:=k4c.lt;simp only[List.getElem?_toArray,List.getElem?_cons_succ,List.getElem?_cons_zero,List.setIfInBounds_toArray,List.set_cons_zero,List.set_cons_succ]at y0 z0 x0 x1 x2 u0 u1 u2 t1 t2;rw[F3]at J4;rw[GM]at Qr;rw[FY]at Lr;have Nm:=hdq J4;have Fu:=hdq JV;have Mw:=hdq Qr;have Q2:=hdq KZ;have Pm:=hdq Lr;have vU:=hdq VV;unfold wdV;clear k8F J4 JV Qr KZ Lr VV vS ft GQ Hs Yq Fk Gj Yr Gm FC NG ft6 ft9 k4 k8 k9 k4a k8a k9a k4b k8b k9b k4c k8c k9c k4d k8d k9d k8e k9e UI UJ UK Yp vQ vR hx Kj vT KJ Tp gA gG Ym Yn Yo Hf jF jG jH jI F3 GM FY
 go_enter Tryz.func153,Tryz.ntmps153;go_wp2_with (at_builtin;first|(refine zaA rfl _ _ 162 rfl (.slice none 0 0) (.slice An ws.length cn) v1 rfl rfl Nm.out ?_;clear Nm)|(refine zaA rfl _ _ 162 rfl v1 _ _ rfl rfl Fu.out ?_;clear Fu)|(refine zaA rfl _ _ 50 rfl (.slice none 0 0) (.slice Ak ws.length ck) v2 rfl rfl Mw.out ?_;clear Mw)|(refine zaA rfl _ _ 50 rfl v2 _ _ rfl rfl Q2.out ?_;clear Q2)|(refine zaA rfl _ _ 50 rfl (.slice none 0 0) (.slice Am ws.length cm) v3 rfl rfl Pm.out ?_;clear Pm)|(refine zaA rfl _ _ 50 rfl v3 _ _ rfl rfl vU.out ?_;clear vU));refine bodyPost_ret (results_cell_row (p:=8) (ty:=164) rfl _ _ (w.heap.size+1) 164 _ (0,0) _ rfl Kf.out Tryz.underlying164 rfl zdK) rfl ⟨_,_,_,_,_,_,?_,jJ.out,HG.out,PD.out⟩;unfold wdV;rw[show(ws++ [(nm,kind,many)]).length =ws.length+1 from by simp]
def upI (lim:Int):Wl->Nat->Wl
 | [],_=> []
 |x::r,i=>if x.2.1≠3\/(i:Int) < lim then x::upI lim r (i+1)else upI lim r (i+1)
theorem zbN (lim:Int)(x:ByteArray×Int×Int)(r:Wl)(i:Nat):upI lim (x::r) i=if x.2.1≠3\/(i:Int) < lim then x::upI lim r (i+1)else upI lim r (i+1):=rfl
def UpP (ws:Wl)(W:World)(e:Ending)(w':World):Prop:=∃An Ak Am cn ck cm,e= .returned (wdV ws An Ak Am cn ck cm)/\WdR w' ws An Ak Am cn ck cm/\Fr NoT W w'
theorem RwR.keepA {w w':World}{T:Nat->Prop}{xs:List Value}{A:Option Addr}{c:Nat}(h:RwR w xs A c)(hf:Fr T w w')(hg:∀b,A=some ⟨b,0,none⟩->¬T b):RwR w' xs A c:=
 ⟨h.1,h.2.1,λh0=>by
  obtain⟨b,e,hb,hc⟩:=h.2.2 h0;exact⟨b,e,ltq hb hf.size,λi u hi=>(hf.cell (p:=⟨b,i,none⟩) hb (hg b e)).trans (hc i u hi)⟩⟩
def zh2 (B:Nat)(A1 A2 A3:Option Addr):Prop:=(∀b,A1=some ⟨b,0,none⟩->B < b)/\(∀b,A2=some ⟨b,0,none⟩->B < b)/\(∀b,A3=some ⟨b,0,none⟩->B < b)
theorem WdR.keepA {w w':World}{T:Nat->Prop}{B:Nat}{ws:Wl}{An Ak Am:Option Addr}{cn ck cm:Nat}(h:WdR w ws An Ak Am cn ck cm)(ha:zh2 B An Ak Am)(hf:Fr T w w')(ht:∀b,T b->b<=B):WdR w' ws An Ak Am cn ck cm:=
 ⟨h.names.keepA hf λb e hT=>by have:=ha.1 b e;have:=ht b hT;omega,h.kinds.keepA hf λb e hT=>by have:=ha.2.1 b e;have:=ht b hT;omega,h.many.keepA hf λb e hT=>by have:=ha.2.2 b e;have:=ht b hT;omega⟩
structure UpW (w1:World)(b7:Nat)(lim:Int)(ws:Wl)(k:Nat)(wr:World):Prop where
 fr:Fr (λb=>b=b7) w1 wr
 out:∃acc A1 A2 A3 c1 c2 c3,Bk wr b7 164 #[.slice A1 (List.length acc) c1,.slice A2 (List.length acc) c2,.slice A3 (List.length acc) c3]/\WdR wr acc A1 A2 A3 c1 c2 c3/\acc++upI lim (ws.drop k) k=upI lim ws 0/\acc.length<=k/\zh2 b7 A1 A2 A3
theorem zjo (ws:Wl)(Av Aa Ap Am':Option Addr)(nv na np nm' cv ca cp cm':Nat)(mk:Nat)(w:World)(An Ak Am:Option Addr)(cn ck cm:Nat)(hx:WdR w ws An Ak Am cn ck cm)(hn:ws.length<=900)(Ku:nv<=1000000)(VW:na<=1000000)(Q8:mk<=1000000):
  Calls Tryz.prog 154 #[.agg #[.slice Av nv cv,.slice Aa na ca,.slice Ap np cp,.slice Am' nm' cm'],wdV ws An Ak Am cn ck cm,.int .i64 mk] w (UpP (upI ((nv:Int)+na+mk) ws 0) w):=by
 have hl:ws.length<=9223372036854775807:=by omega
 obtain⟨lim,VX⟩:=nmq (((nv:Int)+na+mk));rw[<-VX];unfold wdV;have HX:=hdq hx;obtain⟨m,hm⟩:=nmq ws.length;rw[<-hm]at hl hn ⊢;have HM:=hdq hm;obtain⟨w1,Hc⟩:=nmq ((((w.alloc (.cells #[.slice Av nv cv,.slice Aa na ca,.slice Ap np cp,.slice Am' nm' cm'] 27)).alloc (.cells #[.slice An m cn,.slice Ak m ck,.slice Am m cm] 164)).alloc (.cells #[.slice none 0 0,.slice none 0 0,.slice none 0 0] 164)).alloc (.cells #[.slice none 0 0,.slice none 0 0,.slice none 0 0] 164));have Hi:Fr NoT w w1:=by rw[Hc];exact((((Fr.refl _ _).alloc _).alloc _).alloc _).alloc _
 have k3:Bk w1 w.heap.size 27 #[.slice Av nv cv,.slice Aa na ca,.slice Ap np cp,.slice Am' nm' cm']:=by
  rw[Hc];exact(Bk.new _ _ _).fr0 ((((Fr.refl _ _).alloc _).alloc _).alloc _)
 have k4:Bk w1 (w.heap.size+1) 164 #[.slice An m cn,.slice Ak m ck,.slice Am m cm]:=by
  rw[Hc];exact(Bk.new_at _ _ _ (by simp)).fr0 (((Fr.refl _ _).alloc _).alloc _)
 have k6:Bk w1 (w.heap.size+1+1) 164 #[.slice none 0 0,.slice none 0 0,.slice none 0 0]:=by
  rw[Hc];exact(Bk.new_at _ _ _ (by simp)).fr0 ((Fr.refl _ _).alloc _)
 have k7:Bk w1 (w.heap.size+1+1+1) 164 #[.slice none 0 0,.slice none 0 0,.slice none 0 0]:=by
  rw[Hc];exact Bk.new_at _ _ _ (by simp)
 have Hn:=hdq Hi;have F5:=hdq k3;have KO:=hdq k4;have Lw:=hdq k6;have JJ:=hdq (show UpW w1 (w.heap.size+1+1+1) lim ws 0 w1 from⟨Fr.refl _ _, [],none,none,none,0,0,0,k7,WdR.nil _,rfl,lrq _,⟨λb e=>by simp at e,λb e=>by simp at e,λb e=>by simp at e⟩⟩);have Ga:=hdq Hc;have Ys:=hdq VX;have z1:nv+na<=9223372036854775807:=by omega
 have z2:nv+na+mk<=9223372036854775807:=by omega
 clear hx hm Hc Hi k3 k4 k6 k7 VX;go_enter Tryz.func154,Tryz.ntmps154;go_wp2_with fail;rw[<-Ga.out];go_loopw [8] (λi wr=>∃k:Nat,k<=m/\i= .int .i64 k/\Hid (UpW w1 (w.heap.size+1+1+1) lim ws k wr)) (λi _=>m - (intOf i).toNat);case atStart=>exact⟨0,Nat.zero_le _,rfl,JJ⟩
 case round=>
  clear JJ;obtain⟨k,hk,rfl,hb⟩:=hrel;obtain⟨JW,acc,A1,A2,A3,c1,c2,c3,GK,Mz,Jt,hlen,LM⟩:=hb.out;have GX:=KO.fr JW (by omega);have x0:=GX.cell 0;have x1:=GX.cell 1;have x2:=GX.cell 2;have xl:=GX.lt;have Hw:=F5.fr JW (by omega);have y0:=Hw.cell 0;have y1:=Hw.cell 1;have yl:=Hw.lt;have u0:=GK.cell 0;have u1:=GK.cell 1;have u2:=GK.cell 2;have ul:=GK.lt;simp only[getsL]at x0 x1 x2 y0 y1 u0 u1 u2;have Ll:=hdq JW;have Pk:=hdq GK;have Kl:=hdq Mz;have Yt:=hdq Jt;have Qs:=hdq hlen;have Qg:=hdq LM;clear hb JW GK Mz Jt hlen GX Hw LM;by_cases Hr:k < m
  ·obtain⟨⟨a0,a1,a2⟩,ar,hd⟩:=zac (show k < ws.length from by rw[<-HM.out];exact Hr);have FP:=Fr.back0 Hn.out (Ll.mono λb _ e=>by have e:b=w.heap.size+1+1+1:=e;show w.heap.size<=b;omega);have hold:∀ {xs:List Value} {b c:Nat},RwR w xs (some ⟨b,0,none⟩) c->0 < xs.length->b < w.heap.size:=λh h0=>by obtain⟨b',e,hb,_⟩:=h.2.2 h0;simp only[Option.some.injEq,Addr.mk.injEq,and_true]at e;omega
   obtain⟨bn,rfl,zR,FE⟩:=(HX.names.keep FP).2.2 (by simp;rw[<-HM.out];omega);obtain⟨bk,rfl,VY,jK⟩:=(HX.kinds.keep FP).2.2 (by simp;rw[<-HM.out];omega);obtain⟨bm,rfl,uW,Js⟩:=(HX.many.keep FP).2.2 (by simp;rw[<-HM.out];omega);have zS:=hold HX.names (by simp;rw[<-HM.out];omega);have zT:=hold HX.kinds (by simp;rw[<-HM.out];omega);have zU:=hold HX.many (by simp;rw[<-HM.out];omega);have d0:=FE k (.string a0) (by rw[List.getElem?_map,zbW hd.1];rfl);have d1:=jK k (.int .i64 a1) (by rw[List.getElem?_map,zbW hd.1];rfl);have d2:=Js k (.int .i64 a2) (by rw[List.getElem?_map,zbW hd.1];rfl);have Hl:(k:Int) < (m:Int):=by omega
   have Fb:(0:Int)<=(k:Int):=by omega
   have Hq:=Yt.out;rw[hd.1,zbN,<-hd.2]at Hq;simp only at Hq;have J5:((a1=3/\¬(k:Int) < lim)\/(a1≠3\/(k:Int) < lim)):=by by_cases h:a1≠3\/(k:Int) < lim;exact .inr h;exact .inl (by omega)
   rcases J5 with⟨h3,Hw⟩|J5
   ·rw[if_neg (by omega)]at Hq;have HN:=hdq (show UpW w1 (w.heap.size+1+1+1) lim ws (k+1) wr from⟨Ll.out,acc,A1,A2,A3,c1,c2,c3,Pk.out,Kl.out,Hq,Nat.le_succ_of_le Qs.out,Qg.out⟩);have e1:(a1 != 3)=false:=by simpa using h3
    have e2:decide ((k:Int) < (nv:Int)+na+mk)=false:=by rw[<-Ys.out];simpa using Hw
    clear hd FP FE jK Js Hq h3 Hw;go_wp2_with fail;go_roundw;case rel=>exact⟨k+1,by omega,by go_num,HN⟩
    case measure=>simp[intOf];omega
   ·rw[if_pos J5]at Hq;have Hj:=hdq Hq;have h7:=zbZ acc a0 a1 a2 wr.drew A1 A2 A3 c1 c2 c3 (Kl.keep (Fr.refl NoT wr).drew) (by have:=Qs.out;omega);unfold zh1 wdV at h7;have H7:=hdq h7;have JC:(a1 != 3)=true\/((a1 != 3)=false/\decide ((k:Int) < (nv:Int)+na+mk)=true):=by
     rw[<-Ys.out];by_cases h:a1=3
     ·exact .inr ⟨by simpa using h,by simpa using J5.resolve_left (λh2=>h2 h)⟩
     ·exact .inl (by simpa using h)
    clear hd FP FE jK Js Hq J5 h7;have nx:¬(w.heap.size+1=w.heap.size+1+1+1):=by omega
    have nn:¬(bn=w.heap.size+1+1+1):=by omega
    have nk:¬(bk=w.heap.size+1+1+1):=by omega
    have nm:¬(bm=w.heap.size+1+1+1):=by omega
    rcases JC with e1|⟨e1,e2⟩;all_goals
     go_wp2_with fail;refine wp_region_still_tail 16 (by kernel_rfl) (by kernel_rfl) ?_;simp only[List.take_succ_cons,List.take_zero,List.drop_succ_cons,List.drop_zero]
     repeat still_step
     try refine wpStill_nil ?_
     go_wp2_with fail;refine H7.mono ?_;rintro _ w5 ⟨g1,g2,g3,e1',e2',e3',rfl,NH,hg,hf⟩;have Hs:=(Fr.refl NoT wr).drew.trans hf;have M1:=Pk.fr0 Hs;have q0:=M1.cell 0;have q1:=M1.cell 1;have q2:=M1.cell 2;have r0:=M1.frozen 0;have r1:=M1.frozen 1;have r2:=M1.frozen 2;have ql:=M1.lt;simp only[getsL]at q0 q1 q2;have JD:=hdq NH;have zV:=hdq hg;have Hx:=hdq Hs;have jL:=hdq M1;clear NH hg hf Hs M1;all_goals
      have hT:=Fr.own (Fr.own (Fr.own (g:=w.heap.size+1+1+1) (Fr.refl _ w5) 0 (.slice (some ⟨g1,0,none⟩) (acc++ [(a0,a1,a2)]).length e1')) 1 (.slice (some ⟨g2,0,none⟩) (acc++ [(a0,a1,a2)]).length e2')) 2 (.slice (some ⟨g3,0,none⟩) (acc++ [(a0,a1,a2)]).length e3');have hU:=Fr.own (Fr.own (Fr.own (Ll.trans Hx.any) 0 (.slice (some ⟨g1,0,none⟩) (acc++ [(a0,a1,a2)]).length e1')) 1 (.slice (some ⟨g2,0,none⟩) (acc++ [(a0,a1,a2)]).length e2')) 2 (.slice (some ⟨g3,0,none⟩) (acc++ [(a0,a1,a2)]).length e3');have VZ:=((jL.set_ 0 (.slice (some ⟨g1,0,none⟩) (acc++ [(a0,a1,a2)]).length e1')).set_ 1 (.slice (some ⟨g2,0,none⟩) (acc++ [(a0,a1,a2)]).length e2')).set_ 2 (.slice (some ⟨g3,0,none⟩) (acc++ [(a0,a1,a2)]).length e3');simp only[List.setIfInBounds_toArray,List.set_cons_zero,List.set_cons_succ]at VZ;have LM:zh2 (w.heap.size+1+1+1) (some ⟨g1,0,none⟩) (some ⟨g2,0,none⟩) (some ⟨g3,0,none⟩):=by
       obtain⟨h1,h2,h3⟩:=zV.out;have h1:wr.heap.size<=g1:=h1;have h2:wr.heap.size<=g2:=h2;have h3:wr.heap.size<=g3:=h3;refine⟨λb e=>?_,λb e=>?_,λb e=>?_⟩<;>(simp only[Option.some.injEq,Addr.mk.injEq,and_true]at e;omega)
      have UL:(acc++ [(a0,a1,a2)]).length <=k+1:=by have:=Qs.out;simp;omega
      have hN:=(UpW.mk (lim:=lim) (ws:=ws) (k:=k+1) hU ⟨acc++ [(a0,a1,a2)],_,_,_,_,_,_,VZ,JD.keepA LM hT (λb e=>by have e:b=w.heap.size+1+1+1:=e;omega),by rw[List.append_assoc];exact Hj.out,UL,LM⟩);rw[show(acc++ [(a0,a1,a2)]).length =acc.length+1 from by simp]at hN;have HN:=hdq hN;clear hT hU VZ LM UL hN;go_wp2_with fail;go_roundw;case rel=>exact⟨k+1,by omega,by go_num,HN⟩
      case measure=>simp[intOf];omega
  ·have Hl:¬(k:Int) < (m:Int):=by omega
   have he:acc=upI lim ws 0:=by
    have:=Yt.out;rw[List.drop_eq_nil_of_le (by rw[<-HM.out];omega)]at this;simpa[upI]using this
   have Fy:=Lw.fr Ll.out (by omega);have t0:=Fy.cell 0;have t1:=Fy.cell 1;have t2:=Fy.cell 2;have f0:=Fy.frozen 0;have f1:=Fy.frozen 1;have f2:=Fy.frozen 2;have tl:=Fy.lt;simp only[getsL]at t0 t1 t2;have k6F:=((Fy.set_ 0 (.slice A1 acc.length c1)).set_ 1 (.slice A2 acc.length c2)).set_ 2 (.slice A3 acc.length c3);simp only[List.setIfInBounds_toArray,List.set_cons_zero,List.set_cons_succ]at k6F;have hT:Fr (λb=>b=w.heap.size+1+1) wr (((wr.setCell ⟨w.heap.size+1+1,0,none⟩ (.slice A1 acc.length c1)).setCell ⟨w.heap.size+1+1,1,none⟩ (.slice A2 acc.length c2)).setCell ⟨w.heap.size+1+1,2,none⟩ (.slice A3 acc.length c3)):=
    Fr.own (Fr.own (Fr.own (Fr.refl _ _) 0 _) 1 _) 2 _
   have LJ:=hdq (Kl.keepA Qg.out hT (λb e=>by omega));have PD:=hdq (show Fr NoT w (((wr.setCell ⟨w.heap.size+1+1,0,none⟩ (.slice A1 acc.length c1)).setCell ⟨w.heap.size+1+1,1,none⟩ (.slice A2 acc.length c2)).setCell ⟨w.heap.size+1+1,2,none⟩ (.slice A3 acc.length c3))from
    Fr.high (Fr.high (Fr.high (Fr.back0 Hn.out (Ll.mono λb _ e=>by have e:b=w.heap.size+1+1+1:=e;show w.heap.size<=b;omega)) (by omega) _ _) (by omega) _ _) (by omega) _ _)
   have jM:=hdq k6F;have HE:=hdq he;clear Fy k6F hT he;go_wp2_with fail;refine bodyPost_ret (results_cell_row (p:=6) (ty:=164) rfl _ _ (w.heap.size+1+1) 164 _ (0,0) _ rfl jM.out Tryz.underlying164 rfl zdK) rfl ⟨A1,A2,A3,c1,c2,c3,?_,?_,PD.out⟩
   ·rw[<-HE.out];rfl
   ·rw[<-HE.out];exact LJ.out
