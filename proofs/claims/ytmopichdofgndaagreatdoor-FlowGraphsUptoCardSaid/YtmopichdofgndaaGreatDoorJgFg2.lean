/- flow's maker: its state in memory; a node more, an edge more. -/
import Derived.Test.YtmopichdofgndaaGreatDoorJnFg1
import Derived.Test.YtmopichdofgndaaGreatDoorJnInC
set_option linter.all false
set_option maxHeartbeats 1600000
set_option maxRecDepth 100000
namespace Go.Proofs.YtmopichdofgndaaGreatDoor
open Go.RowKit Go.Shelf
def oneE (w:World)(S:Nat->Prop)(e:Ed)(ys:List Value):Prop:=∃A c,ys= [.int .i64 e.from_,.int .i64 e.to_,.int .u8 e.kind,.int .i64 e.n,.int .u8 e.cmp,.slice A e.args.len c,.int .i64 e.at_]/\e.ok/\SlR (λb o=>ExR w S True e.args b o) e.args.len 64 A c
theorem zbi:OneK oneE:=λw w' S S' x ys hf hs h=>by
 obtain⟨A,c,e,h1,h2⟩:=h;exact⟨A,c,e,h1,h2.imp λ_ _ hx=>ExR.more hs (ExR.keep hf hx)⟩
def MOwn (b:Nat)(v:Value)(i:Nat):Prop:=i=b\/v.ownBlock=some i
structure Made (b:Nat)(v v':Value)(w w':World):Prop where
 fr:Fr (MOwn b v) w w'
 row:∀g,v'.ownBlock=some g->v.ownBlock=some g\/w.heap.size<=g
theorem Made.refl (b:Nat)(v:Value)(w:World):Made b v v w w:=⟨Fr.refl _ _,λ_ h=> .inl h⟩
theorem Made.trans {b:Nat}{v v1 v2:Value}{w w1 w2:World}(h:Made b v v1 w w1)(k:Made b v1 v2 w1 w2):Made b v v2 w w2:=by
 refine⟨⟨k.fr.os.trans h.fr.os,k.fr.tape.trans h.fr.tape,k.fr.output.trans h.fr.output,leq9 h.fr.size k.fr.size,λi hi hn=>?_⟩,λg hg=>?_⟩
 ·refine(k.fr.block i (ltq hi h.fr.size) ?_).trans (h.fr.block i hi hn);rintro(e|e)
  ·exact hn (.inl e)
  ·rcases h.row i e with e2|e2
   ·exact hn (.inr e2)
   ·omega
 ·rcases k.row g hg with e|e
  ·exact h.row g e
  ·exact .inr (leq9 h.fr.size e)
theorem Made.of {b:Nat}{v:Value}{w w':World}(h:Fr NoT w w'):Made b v v w w':=⟨h.any,λ_ h=> .inl h⟩
theorem Made.bk {b:Nat}{v v':Value}{w w':World}(h:Made b v v' w w'){g:Nat}{t:TypeId}{cs:Array Value}(hk:Bk w g t cs)(hn:¬MOwn b v g):Bk w' g t cs/\¬MOwn b v' g:=by
 refine⟨hk.fr h.fr hn,?_⟩;rintro(e|e)
 ·exact hn (.inl e)
 ·rcases h.row g e with e2|e2
  ·exact hn (.inr e2)
  ·have:=hk.lt;omega
structure MkS (B b mS mA:Nat)(vars:Int)(sl:Value)(sc ar:NoN)(s:FgS)(v:Value)(w:World):Prop where
 low:B<=b
 bk:Bk w b 134 #[.int .i64 vars,sl,.int .i64 s.nodes,.int .i64 0,.int .i64 1,v,.map (some mS),.map (some mA)]
 maps:(∃n,NoM w mS n sc)/\∃n,NoM w mA n ar
 ne:mS≠b/\mA≠b/\v.ownBlock≠some b/\v.ownBlock≠some mS/\v.ownBlock≠some mA
 row:∃cs,w.ownsRow (b+1) 62 7 v s.edges.length cs/\RowR oneE w (NewR (b+1) v w) s.edges cs
section
variable {B b mS mA:Nat} {vars:Int} {sl:Value} {sc ar:NoN} {s:FgS} {v:Value} {w:World}
theorem MkS.mkN (h:MkS B b mS mA vars sl sc ar s v w):MkN w b sc ar:=by
 obtain⟨⟨n,h1⟩,m,h2⟩:=h.maps;exact⟨_,_,_,_,_,_,_,_,n,m,h.bk,h1,h2⟩
theorem MkS.base (h:MkS B b mS mA vars sl sc ar s v w):B<=w.heap.size:=leq9 h.low (Nat.le_of_lt h.bk.lt)
theorem zjZ {B:Nat}{w':World}{cs:List Value}{l:List Ed}(hr:RowR oneE w (NewR B v w) l cs)(hf:Fr NoT w w'):RowR oneE w' (NewR B v w') l cs:=
 RowR.imp zbi (hf.same λb hb=>⟨hb.2.1,id⟩) (λb hb=>⟨hb.1,ltq hb.2.1 hf.size,hb.2.2⟩) hr
theorem za6 {B:Nat}{w':World}{n size:Nat}{t:TypeId}{cs:List Value}(h:w.ownsRow B t size v n cs)(hf:Fr NoT w w'):w'.ownsRow B t size v n cs:=by
 refine⟨h.1,h.2.imp id ?_⟩;rintro⟨g,cap,cur,e1,e2,e3,e4⟩;exact⟨g,cap,cur,e1,e2,(hf.block g (Bk.lt (t:=t) (cs:=cur) e3) id).trans e3,e4⟩
theorem MkS.fr0 {w':World}(h:MkS B b mS mA vars sl sc ar s v w)(hf:Fr NoT w w'):MkS B b mS mA vars sl sc ar s v w':=by
 obtain⟨cs,h1,h2⟩:=h.row;obtain⟨⟨n,m1⟩,m,m2⟩:=h.maps;exact⟨h.low,h.bk.fr0 hf,⟨⟨n,m1.fr hf id⟩,m,m2.fr hf id⟩,h.ne,cs,za6 h1 hf,zjZ h2 hf⟩
theorem MkS.new (h:MkS B b mS mA vars sl sc ar s v w){g:Nat}(hg:w.heap.size<=g):¬MOwn b v g:=by
 rintro(e|e)
 ·have:=h.bk.lt;omega
 ·obtain⟨cs,h1,_⟩:=h.row;have:=(h1.lt g e).2;omega
theorem MkS.low_ (h:MkS B b mS mA vars sl sc ar s v w){g:Nat}(hg:g < B):¬MOwn b v g:=by
 rintro(e|e)
 ·have:=h.low;omega
 ·obtain⟨cs,h1,_⟩:=h.row;have:=(h1.lt g e).1;have:=h.low;omega
theorem Made.same {v':Value}{w':World}(h:Made b v v' w w')(hw:MkS B b mS mA vars sl sc ar s v w){S:Nat->Prop}(hS:∀x,S x->x < B):SameS S w w':=
 h.fr.same λx hx=>⟨ltq (hS x hx) hw.base,hw.low_ (hS x hx)⟩
theorem zaW {L n size i:Nat}{t:TypeId}{cs:List Value}(h:w.ownsRow L t size v n cs)(hb:b < L)(u:Value):(w.setCell ⟨b,i,none⟩ u).ownsRow L t size v n cs:=by
 refine⟨h.1,h.2.imp id ?_⟩;rintro⟨g,cap,cur,e1,e2,e3,e4⟩;exact⟨g,cap,cur,e1,e2,(Below.heap_setCell w ⟨b,i,none⟩ u g (by show g≠b;omega)).trans e3,e4⟩
theorem MkS.set (h:MkS B b mS mA vars sl sc ar s v w)(n:Int):MkS B b mS mA vars sl sc ar ⟨n,s.edges⟩ v (w.setCell ⟨b,2,none⟩ (.int .i64 n))/\Made b v v w (w.setCell ⟨b,2,none⟩ (.int .i64 n)):=by
 obtain⟨cs,h1,h2⟩:=h.row;obtain⟨⟨k,m1⟩,m,m2⟩:=h.maps;have hf:Fr (λi=>i=b) w (w.setCell ⟨b,2,none⟩ (.int .i64 n)):=Fr.own (Fr.refl _ _) _ _;refine⟨⟨h.low,?_,⟨⟨k,m1.fr hf h.ne.1⟩,m,m2.fr hf h.ne.2.1⟩,h.ne,cs,zaW h1 (Nat.lt_succ_self b) _,RowR.imp zbi (hf.same λx hx=>⟨hx.2.1,λe=>by have e:x=b:=e;have:=hx.1;omega⟩) (λx hx=>⟨hx.1,ltq hx.2.1 hf.size,hx.2.2⟩) h2⟩,⟨hf.mono λ_ _ e=> .inl e,λ_ h=> .inl h⟩⟩;have:=h.bk.set_ 2 (.int .i64 n);simpa using this
theorem MkS.push {w7 w9:World}{v':Value}{cs zs:List Value}{e:Ed}(h:MkS B b mS mA vars sl sc ar s v w)(GA:w.ownsRow (b+1) 62 7 v s.edges.length cs)(Jg:RowR oneE w (NewR (b+1) v w) s.edges cs)(hf:Fr NoT w w7)
  (hy:oneE w7 (λx=>w.heap.size<=x/\x < w7.heap.size) e zs) (Hg:w9.ownsRow (b+1) 62 7 v' (s.edges.length+1) (cs++zs)) (hg:w7.grownBy w9 v.ownBlock) (GP:v'.ownBlock=v.ownBlock\/v'.ownBlock=some w7.heap.size):
  MkS B b mS mA vars sl sc ar ⟨s.nodes,s.edges++ [e]⟩ v' (w9.setCell ⟨b,5,none⟩ v')/\Made b v v' w (w9.setCell ⟨b,5,none⟩ v'):=by
 have Hr:=h.bk.lt;obtain⟨TP,Gm⟩:=RowR.step zbi GA (by omega) Jg hf hy hg GP;obtain⟨⟨k,m1⟩,m,m2⟩:=h.maps;have Wv:some b≠v.ownBlock:=λe=>h.ne.2.2.1 e.symm;have FM:Bk w9 b 134 #[.int .i64 vars,sl,.int .i64 s.nodes,.int .i64 0,.int .i64 1,v,.map (some mS),.map (some mA)]:=(hg.block b (ltq Hr hf.size) Wv).trans (h.bk.fr0 hf);have TQ:Fr (λi=>i=b) w9 (w9.setCell ⟨b,5,none⟩ v'):=Fr.own (Fr.refl _ _) _ _;have xu:mS < w7.heap.size:=(m1.fr hf id).lt;have PK:mA < w7.heap.size:=(m2.fr hf id).lt;have TM:∀q,q < w7.heap.size->v.ownBlock≠some q->v'.ownBlock≠some q:=λq hq hn e=>by
  rcases GP with e2|e2
  ·exact hn (e2▸e)
  ·rw[e2]at e;have:=Option.some.inj e;omega
 have Xw:Fr (λi=>v.ownBlock=some i) w7 w9:=Fr.grown hg λg e _=>e;refine⟨⟨h.low,?_,⟨⟨k,(MpV.kept (m1.fr hf id) hg (λe=>h.ne.2.2.2.1 e.symm)).fr TQ h.ne.1⟩,m,(MpV.kept (m2.fr hf id) hg (λe=>h.ne.2.2.2.2 e.symm)).fr TQ h.ne.2.1⟩,⟨h.ne.1,h.ne.2.1,TM b (ltq Hr hf.size) h.ne.2.2.1,TM mS xu h.ne.2.2.2.1,TM mA PK h.ne.2.2.2.2⟩,cs++zs,?_,?_⟩,⟨?_,λq hq=>?_⟩⟩
 ·have:=FM.set_ 5 v';simpa using this
 ·rw[List.length_append];exact zaW Hg (Nat.lt_succ_self b) _
 ·exact RowR.imp zbi (TQ.same λx hx=>⟨hx.2.1,λe=>by have e:x=b:=e;have:=hx.1;omega⟩) (λx hx=>⟨hx.1,ltq hx.2.1 TQ.size,hx.2.2⟩) TP
 ·exact((hf.any:Fr (MOwn b v) w w7).trans (Xw.mono λ_ _ e=> .inr e)).trans (TQ.mono λ_ _ e=> .inl e)
 ·rcases GP with e|e
  ·exact .inl (e▸hq)
  ·rw[e]at hq;have:=Option.some.inj hq;have:=hf.size;exact .inr (by omega)
theorem zlu (h:MkS B b mS mA vars sl sc ar s v w)(h0:0<=s.nodes)(h1:s.nodes<=4611686018427387904):Calls Tryz.prog 139 #[.pointer (some ⟨b,0,none⟩)] w λe w'=>e= .returned (.int .i64 s.nodes)/\MkS B b mS mA vars sl sc ar s.node v w'/\Made b v v w w':=by
 have c2:=h.bk.cell 2;have f2:=h.bk.frozen 2;have hl:=h.bk.lt;simp only[getsL]at c2;have HS:=hdq (h.set (s.nodes+1));obtain⟨n,hn⟩:=nmq s.nodes;unfold FgS.node;rw[<-hn]at c2 h0 h1 HS ⊢;clear h hn;go_enter Tryz.func139,Tryz.ntmps139;go_wp2_with fail;go_ret;exact⟨by simp,HS.1,HS.2⟩
end
theorem zml:(Tryz.prog.info? 62).map (λi=>(i.zero,i.size,i.bytes))=some (some (.agg #[.int .i64 0,.int .i64 0,.int .u8 0,.int .i64 0,.int .u8 0,.slice none 0 0,.int .i64 0]),7,72):=by kernel_rfl
def PutS (b g:Nat)(v:Value)(kind n cmp:Int)(sl:Value)(W':World):Prop:=b < W'.heap.size/\g < W'.heap.size/\W'.cell? ⟨b,5,none⟩=some v/\W'.cell? ⟨g,0,none⟩=some (.int .u8 kind)/\W'.cell? ⟨g,1,none⟩=some (.int .i64 n)/\W'.cell? ⟨g,2,none⟩=some (.int .u8 cmp)/\W'.cell? ⟨g,3,none⟩=some sl
theorem zlv {B b mS mA:Nat}{vars:Int}{sl:Value}{sc ar:NoN}{s:FgS}{v:Value}{w:World}(h:MkS B b mS mA vars sl sc ar s v w)(r1:NoR sc)(r2:NoR ar)(from_ to_ at_ kind n cmp:Int)(G9:in64 from_/\in64 to_/\in8 kind/\in64 n/\in8 cmp/\in64 at_)(dsl:Value)(hd:dsl= .slice none 0 0)(xs:Exs)(S:Nat->Prop)(Z:Prop)(A:Option Addr)(c:Nat)(hS:∀x,S x->x < B)(hz:szQ xs)(hx:SlR (λb o=>ExR w S Z xs b o) xs.len 64 A c)(hlen:(s.edges.length+1)*72<=140737488355328):
  Calls Tryz.prog 138 #[.pointer (some ⟨b,0,none⟩),.int .i64 from_,.int .i64 to_,.int .i64 at_,.agg #[.int .u8 kind,.int .i64 n,.int .u8 cmp,dsl],.slice A xs.len c] w
   λe w'=>∃v',e= .returned (.tuple #[])/\MkS B b mS mA vars sl sc ar (s.put sc ar from_ to_ at_ kind n cmp xs) v' w'/\Made b v v' w w':=by
 subst hd;obtain⟨W,hW⟩:=nmq (w.alloc (.cells #[.int .u8 kind,.int .i64 n,.int .u8 cmp,.slice none 0 0] 60));have hf:Fr NoT w W:=by rw[hW];exact(Fr.refl _ _).alloc _
 have hk:Bk W w.heap.size 60 #[.int .u8 kind,.int .i64 n,.int .u8 cmp,.slice none 0 0]:=by rw[hW];exact Bk.new w _ _
 have hc:=zgd sc ar r1 r2 xs hz W S Z A c b (h.fr0 hf).mkN (λx hx=>ltq (ltq (hS x hx) h.base) hf.size) hz (hx.imp λ_ _ hx=>ExR.keep (hf.same λx hx=>⟨ltq (hS x hx) h.base,id⟩) hx);obtain⟨l,hl⟩:=nmq xs.len;rw[<-hl]at hc ⊢;obtain⟨i0,hi,Fe,Gh,Gn⟩:=info_parts zml;have HI:=hdq (aiq hi (aiq Fe (aiq Gh Gn)));obtain⟨cs,GA,Jg⟩:=h.row;have HC:=hdq hc;have HH:=hdq h;have Kx:=hdq (aiq GA Jg);have HF:=hdq hf;have HK:=hdq hk;have gQ:=hdq hW;have PL:=hdq G9;have Qs:=hdq hlen;have HX:=hdq (show(numX sc ar xs).len =l from by rw[hl,zaY]);clear h r1 r2 G9 hS hz hx hlen hW hf hk hc hl hi Fe Gh Gn GA Jg;go_enter Tryz.func138,Tryz.ntmps138;go_wp2_with fail;rw[<-gQ.out];refine HC.mono ?_;rintro _ w2 ⟨A',c',rfl,Ft,Gd⟩;rw[HX.out];have He:=HK.fr0 Gd;have z3:=He.frozen 3;have zl:=He.lt;have c3:=He.cell 3;simp only[getsL]at c3;obtain⟨w3,F3⟩:=nmq (w2.setCell ⟨w.heap.size,3,none⟩ (.slice A' l c'));have Ww:Fr (λi=>i=w.heap.size) w2 w3:=by rw[F3];exact Fr.own (Fr.refl _ _) _ _
 have GQ:Fr NoT w w3:=by rw[F3];exact Fr.high (HF.trans Gd) (lrq _) _ _
 have Hw:Bk w3 w.heap.size 60 #[.int .u8 kind,.int .i64 n,.int .u8 cmp,.slice A' l c']:=by
  have:=He.set_ 3 (.slice A' l c');rw[F3];simpa using this
 have h3:=HH.fr0 GQ;have HS:Hid (∀W',Fr NoT w3 W'->PutS b w.heap.size v kind n cmp (.slice A' l c') W'):=
  hdq (λW' hf=>⟨ltq h3.bk.lt hf.size,ltq Hw.lt hf.size,(h3.fr0 hf).bk.cell 5,(Hw.fr0 hf).cell 0,(Hw.fr0 hf).cell 1,(Hw.fr0 hf).cell 2,(Hw.fr0 hf).cell 3⟩)
 have Mx:=hdq (Ft.imp λ_ _ h=>ExR.more (T:=λx=>w.heap.size<=x/\x < w3.heap.size) (λb hb=>⟨by have h1:=hb.1;have:=HF.size;omega,by have h2:=hb.2;have:=Ww.size;omega⟩) (ExR.keep (Ww.same λb hb=>⟨hb.2,λe=>by have e:b=w.heap.size:=e;have h1:=hb.1;have:=HK.lt;omega⟩) h));have Gc:=hdq GQ;have Rf:=hdq F3;have Dj:=hdq h3;have kv:=hdq (show b < w.heap.size from HH.bk.lt);clear Ft Gd He F3 Ww GQ Hw h3 HC;go_wp2_with fail;rw[<-Rf.out];refine zad (PutS b w.heap.size v kind n cmp (.slice A' l c')) (λi=>decide (i < 13)) (by kernel_rfl) (HS _ ((Fr.refl NoT w3).drew)) (λhHeld=>?_);refine zaa 0 ?_;simp only[putsL];refine zaa 1 ?_;simp only[putsL];refine zaa 2 ?_;simp only[putsL];refine zaa 3 ?_;simp only[putsL];refine zaa 4 ?_;simp only[putsL];refine zaD 5 hHeld ?_;simp only[putsL];refine zaa 6 ?_;simp only[putsL];refine zaa 7 ?_;simp only[putsL];refine zaD 8 hHeld ?_;simp only[putsL];refine zaa 9 ?_;simp only[putsL];refine zaa 10 ?_;simp only[putsL];refine zab 11 rfl (by kernel_rfl) (λKK hK=>?_);go_simp;obtain⟨w8,GG⟩:=nmq ((w3.alloc (.cells #[.int .i64 from_,.int .i64 to_,.int .u8 kind,.int .i64 n,.int .u8 cmp,.slice A' l c',.int .i64 at_] 62)).drew );rw[<-GG];have Gj:Fr NoT w3 w8:=by rw[GG];exact((Fr.refl _ _).alloc _).drew
 have Hk:Bk w8 w3.heap.size 62 ([.int .i64 from_,.int .i64 to_,.int .u8 kind,.int .i64 n,.int .u8 cmp,.slice A' l c',.int .i64 at_]:List Value).toArray :=by rw[GG];exact(Bk.new _ _ _).fr0 ((Fr.refl _ _).drew)
 have FH:=HS w8 Gj;have GD:=hdq Gj;have Kf:=hdq Hk;have Fm:=hdq (za6 Kx.1 (Gc.trans Gj));have MI:b+1<=w8.heap.size:=by have:=kv.out;have:=(Gc.trans Gj).size;omega
 clear GG Gj Hk hHeld;try dsimp only
 refine hK _ _ (λ_ _=>FH) ?_;clear hK KK;try simp only[putsL]
 refine zab 12 rfl (by kernel_rfl) (λKK hK=>?_);refine step_append_lies _ (by rfl) _ _ _ (by rfl) (b+1) 62 i0 (.agg #[.int .i64 0,.int .i64 0,.int .u8 0,.int .i64 0,.int .u8 0,.slice none 0 0,.int .i64 0]) 7 72 Tryz.underlying51 HI.1 HI.2.1 HI.2.2.1 HI.2.2.2 rfl (by decide) v s.edges.length cs (by rfl) Fm.out
  ⟨w3.heap.size,0,none⟩ 1 1 _ (by rfl) (by rfl) Kf.newsL (by simp[Value.oneCell']) (by omega) ?c63 Qs.out MI _ rfl ?_
 case c63=>have:=Qs.out;unfold maxLen;omega
 intro gg cap w9 Hg Hh GP L5;have Ns:(Value.slice (some ⟨gg,0,none⟩) (s.edges.length+1) cap).ownBlock =v.ownBlock\/(Value.slice (some ⟨gg,0,none⟩) (s.edges.length+1) cap).ownBlock =some w8.heap.size:=by
  rcases GP with e|e
  ·exact .inl e.symm
  ·exact .inr (by rw[e];rfl)
 have Lo:=HH.push (e:=⟨from_,to_,kind,n,cmp,numX sc ar xs,at_⟩) Kx.1 Kx.2 (Gc.trans GD.out) ⟨A',c',by rw[HX.out],PL.out,by
  rw[HX.out];have hh:=Mx.out;rw[HX.out]at hh;exact hh.imp λ_ _ h=>ExR.more (λx hx=>⟨hx.1,ltq hx.2 GD.size⟩) (ExR.keep (GD.same λx hx=>⟨hx.2,id⟩) h)⟩ Hg Hh Ns
 have GU:some b≠v.ownBlock:=λe=>HH.ne.2.2.1 e.symm;have RM:some w.heap.size≠v.ownBlock:=λe=>by
  have:=(Kx.1.lt _ e.symm).2;omega
 have h8:=HH.fr0 (Gc.trans GD.out);have f9:=(Hh.frozen_far ⟨b,5,none⟩ h8.bk.lt GU).trans (h8.bk.frozen 5);have q9:=(Hh.cell_far ⟨b,5,none⟩ h8.bk.lt GU).trans FH.2.2.1;have l9:b < w9.heap.size:=ltq h8.bk.lt Hh.size;have KJ:PutS b w.heap.size v kind n cmp (.slice A' l c') w9:=⟨l9,ltq FH.2.1 Hh.size,q9,(Hh.cell_far ⟨w.heap.size,0,none⟩ FH.2.1 RM).trans FH.2.2.2.1,(Hh.cell_far ⟨w.heap.size,1,none⟩ FH.2.1 RM).trans FH.2.2.2.2.1,(Hh.cell_far ⟨w.heap.size,2,none⟩ FH.2.1 RM).trans FH.2.2.2.2.2.1,(Hh.cell_far ⟨w.heap.size,3,none⟩ FH.2.1 RM).trans FH.2.2.2.2.2.2⟩;have TR:=hdq Lo;clear Ns Hg Hh GP h8 Lo GU RM FH MI;try dsimp only
 refine hK _ _ (λ_ _=>KJ) ?_;clear hK KK;try simp only[putsL]
 refine zab 13 rfl (by kernel_rfl) (λKK hK=>?_);go_simp;refine hK _ _ (λh=>absurd h (by decide)) ?_;clear hK KK;try simp only[putsL]
 refine zab 14 rfl (by kernel_rfl) (λKK hK=>?_);go_simp;refine hK _ _ (λh=>absurd h (by decide)) ?_;clear hK KK;try simp only[putsL]
 refine zab 15 rfl (by kernel_rfl) (λKK hK=>?_);go_simp;refine hK _ _ (λh=>absurd h (by decide)) ?_;clear hK KK;try simp only[putsL]
 refine zab 16 rfl (by kernel_rfl) (λKK hK=>?_);go_simp;refine hK _ _ (λh=>absurd h (by decide)) ?_;clear hK KK;try simp only[putsL]
 refine zai (by kernel_rfl) ?_;go_wp2_with fail;go_end0;exact⟨_,rfl,TR.1,TR.2⟩
open Go.RowKit
section
variable {P:Program} {Q:Exit->Act->World->Prop} {md:Region.Mode} {S:World->Prop} {n:Nat->Bool} {ops:Array Oper}
theorem zdf {f:Nat}{L:Array Bool}{a:Act}{w:World}{l:List Nat}(hr:Region.ready md ops L=l)(hl:l≠ [])(h:∀i∈l,wpOp P ops Q i (λa' w'=>S w'/\wpE P md ops Q S n f (L.setIfInBounds i true) a' w') a w):wpE P md ops Q S n (f+1) L a w:=by
 refine⟨λe=>absurd (hr▸e) hl,λi hi=>?_⟩;rw[hr]at hi;exact wpOp_mono (λa' w' h'=>⟨λ_ _=>h'.1,h'.2⟩) (h i hi)
def ls2 (L:Array Bool)(i j:Nat)(b c:Bool):Array Bool:=(L.setIfInBounds i b).setIfInBounds j c
theorem zlw {f:Nat}{L:Array Bool}(i j:Nat)(ky:i≠j)(I:Option Value->Option Nat->Act->World->Prop)(hS:∀v g a w,I v g a w->S w)
  (hr:Region.ready md ops (ls2 L i j false false)= [i,j]/\Region.ready md ops (ls2 L i j true false)= [j]/\Region.ready md ops (ls2 L i j false true)= [i])
  (h1:∀g a w,I none g a w->wpOp P ops Q i (λa' w'=>∃v,I (some v) g a' w') a w) (h2:∀v a w,I v none a w->wpOp P ops Q j (λa' w'=>∃g,I v (some g) a' w') a w)
  (Gx:∀v g a w,I (some v) (some g) a w->wpE P md ops Q S n f (ls2 L i j true true) a w) {a:Act} {w:World} (hL:ls2 L i j false false=L) (h:I none none a w):wpE P md ops Q S n (f+2) L a w:=by
 have e1:∀c,(ls2 L i j false c).setIfInBounds i true=ls2 L i j true c:=λc=>by
  unfold ls2;rw[Array.setIfInBounds_comm _ _ (Ne.symm ky),Array.setIfInBounds_setIfInBounds]
 have e2:∀b,(ls2 L i j b false).setIfInBounds j true=ls2 L i j b true:=λb=>by
  unfold ls2;rw[Array.setIfInBounds_setIfInBounds]
 have hA:∀v a w,I (some v) none a w->wpE P md ops Q S n (f+1) (ls2 L i j true false) a w:=λv a w hi=>by
  refine zdf hr.2.1 (by simp) (λk hk=>?_);obtain rfl:k=j:=by simpa using hk
  refine wpOp_mono (λa' w' h'=>?_) (h2 _ _ _ hi);obtain⟨g,hg⟩:=h';exact⟨hS _ _ _ _ hg,e2 true▸Gx _ _ _ _ hg⟩
 have hB:∀g a w,I none (some g) a w->wpE P md ops Q S n (f+1) (ls2 L i j false true) a w:=λv a w hi=>by
  refine zdf hr.2.2 (by simp) (λk hk=>?_);obtain rfl:k=i:=by simpa using hk
  refine wpOp_mono (λa' w' h'=>?_) (h1 _ _ _ hi);obtain⟨g,hg⟩:=h';exact⟨hS _ _ _ _ hg,e1 true▸Gx _ _ _ _ hg⟩
 rw[<-hL];refine zdf hr.1 (by simp) (λk hk=>?_);rcases(show k=i\/k=j from by simpa using hk)with rfl|rfl
 ·refine wpOp_mono (λa' w' h'=>?_) (h1 _ _ _ h);obtain⟨v,hv⟩:=h';exact⟨hS _ _ _ _ hv,e1 false▸hA _ _ _ hv⟩
 ·refine wpOp_mono (λa' w' h'=>?_) (h2 _ _ _ h);obtain⟨v,hv⟩:=h';exact⟨hS _ _ _ _ hv,e2 false▸hB _ _ _ hv⟩
def ls4 (L:Array Bool)(i j k l:Nat)(b c d e:Bool):Array Bool:=(((L.setIfInBounds i b).setIfInBounds j c).setIfInBounds k d).setIfInBounds l e
def rd4 (i j k l:Nat)(b c d e:Bool):List Nat:=(if b then(if c then []else [j])else [i])++((if d then []else [k])++(if e then []else [l]))
abbrev In4:=Option Value->Option Value->Option Nat->Option Nat->Act->World->Prop
theorem zmL {i j k l q:Nat}{b c d e:Bool}(XJ:c=true->b=true)(h:q∈rd4 i j k l b c d e):(b=false/\c=false/\q=i)\/(b=true/\c=false/\q=j)\/(d=false/\q=k)\/(e=false/\q=l):=by
 unfold rd4 at h;cases b<;>cases c<;>cases d<;>cases e<;>simp at h XJ ⊢ <;>first|exact h|omega
theorem znz {i j k l:Nat}{b c d e:Bool}(h:(b&&c&&d&&e)=false)(XJ:c=true->b=true):rd4 i j k l b c d e≠ []:=by
 unfold rd4;cases b<;>cases c<;>cases d<;>cases e<;>simp at h XJ ⊢
theorem m4 {b c d e:Bool}{m:Nat}(h:(if b then 0 else 1)+(if c then 0 else 1)+(if d then 0 else 1)+(if e then 0 else 1)=m+1):(b&&c&&d&&e)=false:=by
 cases b<;>cases c<;>cases d<;>cases e<;>simp at h ⊢
theorem m40 {b c d e:Bool}(h:(if b then 0 else 1)+(if c then 0 else 1)+(if d then 0 else 1)+(if e then 0 else 1)=0):b=true/\c=true/\d=true/\e=true:=by
 cases b<;>cases c<;>cases d<;>cases e<;>simp at h ⊢
theorem zlx {f:Nat}{L:Array Bool}(i j k l:Nat)(GU:i≠j/\i≠k/\i≠l/\j≠k/\j≠l/\k≠l)(I:In4)(hS:∀u v g h a w,I u v g h a w->S w)
  (hr:∀b c d e:Bool,(c=true->b=true)->Region.ready md ops (ls4 L i j k l b c d e)=rd4 i j k l b c d e\/(b&&c&&d&&e)=true)
  (h1:∀g h a w,I none none g h a w->wpOp P ops Q i (λa' w'=>∃v,I (some v) none g h a' w') a w)
  (h2:∀u g h a w,I (some u) none g h a w->wpOp P ops Q j (λa' w'=>∃v,I (some u) (some v) g h a' w') a w)
  (h3:∀u v h a w,I u v none h a w->wpOp P ops Q k (λa' w'=>∃g,I u v (some g) h a' w') a w)
  (h4:∀u v g a w,I u v g none a w->wpOp P ops Q l (λa' w'=>∃h,I u v g (some h) a' w') a w)
  (ho:∀v g h a w,¬I none (some v) g h a w)
  (Gx:∀u v g h a w,I (some u) (some v) (some g) (some h) a w->wpE P md ops Q S n f (ls4 L i j k l true true true true) a w):
  ∀(m:Nat)(u v:Option Value)(g h:Option Nat)(a:Act)(w:World),I u v g h a w->(if u.isSome then 0 else 1)+(if v.isSome then 0 else 1)+(if g.isSome then 0 else 1)+(if h.isSome then 0 else 1)=m->wpE P md ops Q S n (f+m) (ls4 L i j k l u.isSome v.isSome g.isSome h.isSome) a w:=by
 obtain⟨nij,nik,nil_,njk,njl,nkl⟩:=GU;have e1:∀c d e,(ls4 L i j k l false c d e).setIfInBounds i true=ls4 L i j k l true c d e:=λc d e=>by
  unfold ls4;rw[Array.setIfInBounds_comm _ _ (Ne.symm nil_),Array.setIfInBounds_comm _ _ (Ne.symm nik),Array.setIfInBounds_comm _ _ (Ne.symm nij),Array.setIfInBounds_setIfInBounds]
 have e2:∀b d e,(ls4 L i j k l b false d e).setIfInBounds j true=ls4 L i j k l b true d e:=λc d e=>by
  unfold ls4;rw[Array.setIfInBounds_comm _ _ (Ne.symm njl),Array.setIfInBounds_comm _ _ (Ne.symm njk),Array.setIfInBounds_setIfInBounds]
 have e3:∀b c e,(ls4 L i j k l b c false e).setIfInBounds k true=ls4 L i j k l b c true e:=λc d e=>by
  unfold ls4;rw[Array.setIfInBounds_comm _ _ (Ne.symm nkl),Array.setIfInBounds_setIfInBounds]
 have e4:∀b c d,(ls4 L i j k l b c d false).setIfInBounds l true=ls4 L i j k l b c d true:=λc d e=>by
  unfold ls4;rw[Array.setIfInBounds_setIfInBounds]
 intro m
 induction m with
 |zero=>
  intro u v g h a w hi hm;obtain⟨q1,q2,q3,q4⟩:=m40 hm;obtain⟨u,rfl⟩:=Option.isSome_iff_exists.1 q1;obtain⟨v,rfl⟩:=Option.isSome_iff_exists.1 q2;obtain⟨g,rfl⟩:=Option.isSome_iff_exists.1 q3;obtain⟨h,rfl⟩:=Option.isSome_iff_exists.1 q4;exact Gx _ _ _ _ _ _ hi
 |succ m ih=>
  intro u v g h a w hi hm;have Wx:v.isSome=true->u.isSome=true:=λhv=>by
   cases u with
   |some _=>rfl
   |none=>
    cases v with
    |none=>simp at hv
    |some v=>exact absurd hi (ho _ _ _ _ _)
  have MZ:Region.ready md ops (ls4 L i j k l u.isSome v.isSome g.isSome h.isSome)=rd4 i j k l u.isSome v.isSome g.isSome h.isSome:=by
   rcases hr _ _ g.isSome h.isSome Wx with e|e
   ·exact e
   ·rw[m4 hm]at e;cases e
  refine zdf MZ ?_ (λq hq=>?_)
  ·exact znz (m4 hm) Wx
  ·have Tc:(u=none/\v=none/\q=i)\/(u.isSome=true/\v=none/\q=j)\/(g=none/\q=k)\/(h=none/\q=l):=by
    have:=zmL Wx hq;simpa only[Option.isSome_eq_false_iff,Option.isNone_iff_eq_none]using this
   rcases Tc with⟨rfl,rfl,rfl⟩|⟨hu,rfl,rfl⟩|⟨rfl,rfl⟩|⟨rfl,rfl⟩
   ·refine wpOp_mono (λa' w' h'=>?_) (h1 _ _ _ _ hi);obtain⟨x,hx⟩:=h';have hz:=ih _ _ _ _ _ _ hx (by simp only[Option.isSome_some,Option.isSome_none]at hm ⊢;simp at hm ⊢;omega);simp only[Option.isSome_some,Option.isSome_none]at hz ⊢;rw[e1];exact⟨hS _ _ _ _ _ _ hx,hz⟩
   ·obtain⟨y,rfl⟩:=Option.isSome_iff_exists.1 hu;refine wpOp_mono (λa' w' h'=>?_) (h2 _ _ _ _ _ hi);obtain⟨x,hx⟩:=h';have hz:=ih _ _ _ _ _ _ hx (by simp only[Option.isSome_some,Option.isSome_none]at hm ⊢;simp at hm ⊢;omega);simp only[Option.isSome_some,Option.isSome_none]at hz ⊢;rw[e2];exact⟨hS _ _ _ _ _ _ hx,hz⟩
   ·refine wpOp_mono (λa' w' h'=>?_) (h3 _ _ _ _ _ hi);obtain⟨x,hx⟩:=h';have hz:=ih _ _ _ _ _ _ hx (by simp only[Option.isSome_some,Option.isSome_none]at hm ⊢;simp at hm ⊢;omega);simp only[Option.isSome_some,Option.isSome_none]at hz ⊢;rw[e3];exact⟨hS _ _ _ _ _ _ hx,hz⟩
   ·refine wpOp_mono (λa' w' h'=>?_) (h4 _ _ _ _ _ hi);obtain⟨x,hx⟩:=h';have hz:=ih _ _ _ _ _ _ hx (by simp only[Option.isSome_some,Option.isSome_none]at hm ⊢;simp at hm ⊢;omega);simp only[Option.isSome_some,Option.isSome_none]at hz ⊢;rw[e4];exact⟨hS _ _ _ _ _ _ hx,hz⟩
def putO (a:Act)(i:Nat):Option Value->Act
 |none=>a
 |some v=>a.put (some i) v
def ptrO (g:Option Nat):Option Value:=g.map λg=> .pointer (some ⟨g,0,none⟩)
theorem zj0 {f:Nat}{L:Array Bool}(i j ti tj:Nat)(ky:i≠j){a:Act}{w:World}(I:Option Value->Option Nat->World->Prop)(hS:∀v g w,I v g w->S w)(hL:ls2 L i j false false=L)
  (hr:Region.ready md ops (ls2 L i j false false)= [i,j]/\Region.ready md ops (ls2 L i j true false)= [j]/\Region.ready md ops (ls2 L i j false true)= [i])
  (h1:∀g w,I none g w->wpOp P ops Q i (λa' w'=>∃v,a'=putO (putO a ti (some v)) tj (ptrO g)/\I (some v) g w') (putO a tj (ptrO g)) w) (h2:∀v w,I v none w->wpOp P ops Q j (λa' w'=>∃g,a'=putO (putO a ti v) tj (ptrO (some g))/\I v (some g) w') (putO a ti v) w)
  (Gx:∀v g w,I (some v) (some g) w->wpE P md ops Q S n f (ls2 L i j true true) (putO (putO a ti (some v)) tj (ptrO (some g))) w) (h:I none none w):wpE P md ops Q S n (f+2) L a w:=by
 refine zlw i j ky (λv g a' w=>a'=putO (putO a ti v) tj (ptrO g)/\I v g w) (λv g a w h=>hS v g w h.2) hr (λg a' w h=>?_) (λv a' w h=>?_) (λv g a' w h=>?_) hL ⟨rfl,h⟩
 ·obtain⟨rfl,h⟩:=h;exact h1 g w h
 ·obtain⟨rfl,h⟩:=h;exact h2 v w h
 ·obtain⟨rfl,h⟩:=h;exact Gx v g w h
theorem zj1 {f:Nat}{L:Array Bool}(i j k l ti tj tk tl:Nat)(GU:i≠j/\i≠k/\i≠l/\j≠k/\j≠l/\k≠l){a:Act}{w:World}(I:Option Value->Option Value->Option Nat->Option Nat->World->Prop)(hS:∀u v g h w,I u v g h w->S w)(hL:ls4 L i j k l false false false false=L)
  (hr:∀b c d e:Bool,(c=true->b=true)->Region.ready md ops (ls4 L i j k l b c d e)=rd4 i j k l b c d e\/(b&&c&&d&&e)=true)
  (h1:∀g h w,I none none g h w->wpOp P ops Q i (λa' w'=>∃v,a'=putO (putO (putO (putO a ti (some v)) tj none) tk (ptrO g)) tl (ptrO h)/\I (some v) none g h w') (putO (putO (putO (putO a ti none) tj none) tk (ptrO g)) tl (ptrO h)) w)
  (h2:∀u g h w,I (some u) none g h w->wpOp P ops Q j (λa' w'=>∃v,a'=putO (putO (putO (putO a ti (some u)) tj (some v)) tk (ptrO g)) tl (ptrO h)/\I (some u) (some v) g h w') (putO (putO (putO (putO a ti (some u)) tj none) tk (ptrO g)) tl (ptrO h)) w)
  (h3:∀u v h w,I u v none h w->wpOp P ops Q k (λa' w'=>∃g,a'=putO (putO (putO (putO a ti u) tj v) tk (ptrO (some g))) tl (ptrO h)/\I u v (some g) h w') (putO (putO (putO (putO a ti u) tj v) tk none) tl (ptrO h)) w)
  (h4:∀u v g w,I u v g none w->wpOp P ops Q l (λa' w'=>∃h,a'=putO (putO (putO (putO a ti u) tj v) tk (ptrO g)) tl (ptrO (some h))/\I u v g (some h) w') (putO (putO (putO (putO a ti u) tj v) tk (ptrO g)) tl none) w)
  (ho:∀v g h w,¬I none (some v) g h w)
  (Gx:∀u v g h w,I (some u) (some v) (some g) (some h) w->wpE P md ops Q S n f (ls4 L i j k l true true true true) (putO (putO (putO (putO a ti (some u)) tj (some v)) tk (ptrO (some g))) tl (ptrO (some h))) w) (h:I none none none none w):wpE P md ops Q S n (f+4) L a w:=by
 have:=zlx (f:=f) (L:=L) i j k l GU (λu v g h a' w=>a'=putO (putO (putO (putO a ti u) tj v) tk (ptrO g)) tl (ptrO h)/\I u v g h w) (P:=P) (Q:=Q) (md:=md) (S:=S) (n:=n) (ops:=ops) (λu v g h a w hh=>hS u v g h w hh.2) hr (λg h a' w hh=>?_) (λu g h a' w hh=>?_) (λu v h a' w hh=>?_) (λu v g a' w hh=>?_) (λv g h a' w hh=>ho v g h w hh.2) (λu v g h a' w hh=>?_) 4 none none none none a w ⟨rfl,h⟩ rfl
 ·rw[<-hL];exact this
 ·obtain⟨rfl,hh⟩:=hh;exact h1 g h w hh
 ·obtain⟨rfl,hh⟩:=hh;exact h2 u g h w hh
 ·obtain⟨rfl,hh⟩:=hh;exact h3 u v h w hh
 ·obtain⟨rfl,hh⟩:=hh;exact h4 u v g w hh
 ·obtain⟨rfl,hh⟩:=hh;exact Gx u v g h w hh
def zeF (md:Region.Mode)(ops:Array Oper):Nat->Nat->Nat->Bool
 |0,j,i=>Region.waitsFor md ops j i
 |f+1,j,i=>Region.waitsFor md ops j i || (List.range ops.size).any λk=>Region.waitsFor md ops j k&&zeF md ops f k i
theorem zgQ {listed:Array Bool}(hc:ClosedL md ops listed):∀(f j i:Nat)(oj:Oper),ops[j]?=some oj->(∀e∈oj.after,Region.binds md e=true->listed.getD e.on false=true)->zeF md ops f j i=true->listed.getD i false=true:=by
 have h0:∀(j i:Nat)(oj:Oper),ops[j]?=some oj->(∀e∈oj.after,Region.binds md e=true->listed.getD e.on false=true)->Region.waitsFor md ops j i=true->listed.getD i false=true:=λj i oj Kh Ha h=>by
  obtain⟨oj',NQ,e,he,hb,Wo⟩:=Region.waitsFor_spec h;rw[Kh]at NQ;cases NQ;exact Wo▸Ha e he hb
 intro f
 induction f with
 |zero=>exact h0
 |succ f ih=>
  intro j i oj Kh Ha h;simp only[zeF,Bool.or_eq_true,List.any_eq_true,Bool.and_eq_true]at h;rcases h with h|⟨k,_,NM,RE⟩
  ·exact h0 j i oj Kh Ha h
  ·have hk:=h0 j k oj Kh Ha NM;cases G9:ops[k]? with
   |none=>
    exfalso
    cases f with
    |zero=>simp[zeF,Region.waitsFor,G9]at RE
    |succ f=>
     have:∀x,Region.waitsFor md ops k x=false:=λx=>by simp[Region.waitsFor,G9]
     simp[zeF,this]at RE
   |some ok=>exact ih k i ok G9 (λe he hb=>hc k ok G9 hk e he hb) RE
def zmM (md:Region.Mode)(ops:Array Oper)(n:Nat->Bool)(i:Nat):Bool:=(List.range ops.size).all λj=>n j || j==i || zeF md ops 5 j i
theorem zii {i j:Nat}{listed:Array Bool}(h:zmM md ops n i=true)(hc:ClosedL md ops listed)(hi:listed.getD i true=false)(hj:j∈Region.ready md ops listed)(GU:j≠i):n j=true:=by
 obtain⟨_,oj,Kh,Ha⟩:=mem_ready.1 hj;have Qe:listed.getD i false≠true:=λe=>by
  rcases Nat.lt_or_ge i listed.size with h'|h'
  ·simp[h']at hi e;rw[hi]at e;simp at e
  ·simp[Array.getElem?_eq_none h']at hi
 have h1:=List.all_eq_true.1 h j (List.mem_range.2 (Array.getElem?_eq_some_iff.1 Kh).1);simp only[Bool.or_eq_true,beq_iff_eq]at h1;rcases h1 with(h1|h1)|h1
 ·exact h1
 ·exact absurd h1 GU
 ·exact absurd (zgQ hc 5 j i oj Kh Ha h1) Qe
theorem zij {i:Nat}{oi:Oper}{v:Value}(hi:ops[i]?=some oi)(hs:Region.noSelect ops=true)(hQ:∀c a w,Q (.panic c) (a.put oi.dst v) w->Q (.panic c) a w)(hl:zmM md ops n i=true):
  ∀(f:Nat)(listed:Array Bool)(a:Act)(w:World),ClosedL md ops listed->(∀j oj,ops[j]?=some oj->j≠i->listed.getD j true=false->(∀e∈oj.after,Region.binds md e=true->e.on≠i)->oi.apart ops oj=true)->
   i∈Region.ready md ops listed->YieldsIf P ops S oi v a->S w->wpE P md ops Q S n f (listed.setIfInBounds i true) (a.put oi.dst v) w->wpE P md ops Q S n (f+1) listed a w:=by
 intro f
 induction f with
 |zero=>
  intro listed a w Ki Jk hr hy hS H;refine⟨λh=>by rw[h]at hr;simp at hr,λj hj=>?_⟩;by_cases JQ:j=i
  ·subst JQ;exact hy.wpOp hi hS ⟨λ_ h=>h,H⟩
  ·have h1:=ready_mono hj JQ;rw[H.1]at h1;simp at h1
 |succ f ih=>
  intro listed a w Ki Jk hr hy hS H;refine⟨λh=>by rw[h]at hr;simp at hr,λj hj=>?_⟩;by_cases JQ:j=i
  ·subst JQ;exact hy.wpOp hi hS ⟨λ_ h=>h,H⟩
  ·have h1:=H.2 j (ready_mono hj JQ);obtain⟨RD,oj,Kh,Ha⟩:=mem_ready.1 hj;have PA:∀e∈oj.after,Region.binds md e=true->e.on≠i:=λe he hb heq=>by
    have g1:=Ha e he hb;have g0:=(mem_ready.1 hr).1;rw[heq]at g1;rcases Nat.lt_or_ge i listed.size with h'|h'
    ·simp[h']at g0 g1;rw[g0]at g1;simp at g1
    ·simp[Array.getElem?_eq_none h']at g1
   have YC:=zii hl Ki (mem_ready.1 hr).1 hj JQ;have J5:=Region.noSelect_spec hs;have h2:=wpOp_putIf Kh (Jk j oj Kh JQ RD PA) (λcs b=>J5 i oi cs b hi) (λcs b=>J5 j oj cs b Kh) hQ hy h1;refine wpOp_mono (λa' w' h3=>⟨h3.2.1,ih (listed.setIfInBounds j true) a' w' (Ki.set hj) (λk ok hk RE Ta Wp=>?_) (ready_mono hr (Ne.symm JQ)) h3.1 (h3.2.1 YC hS) ?_⟩) h2
   ·refine Jk k ok hk RE ?_ Wp;by_cases NM:j=k
    ·subst NM;exact RD
    ·rwa [getD_set_ne true NM]at Ta
   ·rw[Array.setIfInBounds_comm _ _ JQ];exact h3.2.2
theorem zas {l:List Oper}(i:Nat){oi:Oper}{r:List Oper}{v:Value}{f:Nat}{listed:Array Bool}{a:Act}{w:World}(hi:l.drop i=oi::r)(hs:(Region.noSelect l.toArray&&Region.free md l.toArray listed i&&(Region.ready md l.toArray listed).contains i&&zmM md l.toArray n i&&zdS md l.toArray listed)=true)
  (hQ:∀c a w,Q (.panic c) (a.put oi.dst v) w->Q (.panic c) a w) (hS:S w) (hw:Region.wanted oi (yielded l.toArray a.tmps)=true) (hy:∀w,S w->(execOp a.eval oi).run P w= .ok (.value v) w)
  (h:wpE P md l.toArray Q S n f (listed.setIfInBounds i true) (a.put oi.dst v) w):wpE P md l.toArray Q S n (f+1) listed a w:=by
 simp only[Bool.and_eq_true]at hs;exact zij (zaM hi) hs.1.1.1.1 hQ hs.1.2 f listed a w (zc1 hs.2) (Region.free_spec (zaM hi) hs.1.1.1.2) (by simpa using hs.1.1.2) (.inl ⟨hw,hy⟩) hS h
end
structure RfS (B b:Nat)(a0 a1 a2 a3:Value)(vars:Int)(sl:Value)(s:FgS)(v:Value)(w:World):Prop where
 low:B<=b
 bk:Bk w b 137 #[a0,a1,a2,a3,.int .i64 vars,sl,.int .i64 s.nodes,.int .i64 0,.int .i64 1,v]
 ne:v.ownBlock≠some b
 row:∃cs,w.ownsRow (b+1) 62 7 v (s.edges.take 2049).length cs/\RowR oneE w (NewR (b+1) v w) (s.edges.take 2049) cs
def FgS.putN (s:FgS)(e:Ed):FgS:=⟨s.nodes,s.edges++ [e]⟩
section
variable {B b:Nat} {a0 a1 a2 a3:Value} {vars:Int} {sl:Value} {s:FgS} {v:Value} {w:World}
theorem RfS.base (h:RfS B b a0 a1 a2 a3 vars sl s v w):B<=w.heap.size:=leq9 h.low (Nat.le_of_lt h.bk.lt)
theorem RfS.fr0 {w':World}(h:RfS B b a0 a1 a2 a3 vars sl s v w)(hf:Fr NoT w w'):RfS B b a0 a1 a2 a3 vars sl s v w':=by
 obtain⟨cs,h1,h2⟩:=h.row;exact⟨h.low,h.bk.fr0 hf,h.ne,cs,za6 h1 hf,zjZ h2 hf⟩
theorem RfS.new (h:RfS B b a0 a1 a2 a3 vars sl s v w){g:Nat}(hg:w.heap.size<=g):¬MOwn b v g:=by
 rintro(e|e)
 ·have:=h.bk.lt;omega
 ·obtain⟨cs,h1,_⟩:=h.row;have:=(h1.lt g e).2;omega
theorem RfS.low_ (h:RfS B b a0 a1 a2 a3 vars sl s v w){g:Nat}(hg:g < B):¬MOwn b v g:=by
 rintro(e|e)
 ·have:=h.low;omega
 ·obtain⟨cs,h1,_⟩:=h.row;have:=(h1.lt g e).1;have:=h.low;omega
theorem Made.sameR {v':Value}{w':World}(h:Made b v v' w w')(hw:RfS B b a0 a1 a2 a3 vars sl s v w){S:Nat->Prop}(hS:∀x,S x->x < B):SameS S w w':=
 h.fr.same λx hx=>⟨ltq (hS x hx) hw.base,hw.low_ (hS x hx)⟩
theorem RfS.set (h:RfS B b a0 a1 a2 a3 vars sl s v w)(n:Int):RfS B b a0 a1 a2 a3 vars sl ⟨n,s.edges⟩ v (w.setCell ⟨b,6,none⟩ (.int .i64 n))/\Made b v v w (w.setCell ⟨b,6,none⟩ (.int .i64 n)):=by
 obtain⟨cs,h1,h2⟩:=h.row;have hf:Fr (λi=>i=b) w (w.setCell ⟨b,6,none⟩ (.int .i64 n)):=Fr.own (Fr.refl _ _) _ _;refine⟨⟨h.low,?_,h.ne,cs,zaW h1 (Nat.lt_succ_self b) _,RowR.imp zbi (hf.same λx hx=>⟨hx.2.1,λe=>by have e:x=b:=e;have:=hx.1;omega⟩) (λx hx=>⟨hx.1,ltq hx.2.1 hf.size,hx.2.2⟩) h2⟩,⟨hf.mono λ_ _ e=> .inl e,λ_ h=> .inl h⟩⟩;have:=h.bk.set_ 6 (.int .i64 n);simpa using this
theorem zik {l:List Ed}{e:Ed}(h:l.length<=2048):(l++ [e]).take 2049=l.take 2049++ [e]:=by
 rw[List.take_of_length_le (by simp;omega),List.take_of_length_le (by omega)]
theorem zeG {l:List Ed}{e:Ed}(h:2048 < l.length):(l++ [e]).take 2049=l.take 2049:=by
 rw[List.take_append_of_le_length (by omega)]
theorem RfS.full (h:RfS B b a0 a1 a2 a3 vars sl s v w)(e:Ed)(hl:2048 < s.edges.length):RfS B b a0 a1 a2 a3 vars sl (s.putN e) v w:=by
 obtain⟨cs,h1,h2⟩:=h.row;refine⟨h.low,h.bk,h.ne,cs,?_,?_⟩
 ·show w.ownsRow _ _ _ v ((s.edges++ [e]).take 2049).length cs
  rw[zeG hl];exact h1
 ·show RowR oneE w _ ((s.edges++ [e]).take 2049) cs
  rw[zeG hl];exact h2
theorem RfS.push {w7 w9:World}{v':Value}{cs zs:List Value}{e:Ed}(h:RfS B b a0 a1 a2 a3 vars sl s v w)(hl:s.edges.length<=2048)(GA:w.ownsRow (b+1) 62 7 v (s.edges.take 2049).length cs)(Jg:RowR oneE w (NewR (b+1) v w) (s.edges.take 2049) cs)(hf:Fr NoT w w7)
  (hy:oneE w7 (λx=>w.heap.size<=x/\x < w7.heap.size) e zs) (Hg:w9.ownsRow (b+1) 62 7 v' ((s.edges.take 2049).length +1) (cs++zs)) (hg:w7.grownBy w9 v.ownBlock) (GP:v'.ownBlock=v.ownBlock\/v'.ownBlock=some w7.heap.size):
  RfS B b a0 a1 a2 a3 vars sl (s.putN e) v' (w9.setCell ⟨b,9,none⟩ v')/\Made b v v' w (w9.setCell ⟨b,9,none⟩ v'):=by
 have Hr:=h.bk.lt;obtain⟨TP,Gm⟩:=RowR.step zbi GA (by omega) Jg hf hy hg GP;have Wv:some b≠v.ownBlock:=λe=>h.ne e.symm;have FM:=(hg.block b (ltq Hr hf.size) Wv).trans (h.bk.fr0 hf);have FM:Bk w9 b 137 #[a0,a1,a2,a3,.int .i64 vars,sl,.int .i64 s.nodes,.int .i64 0,.int .i64 1,v]:=FM;have TQ:Fr (λi=>i=b) w9 (w9.setCell ⟨b,9,none⟩ v'):=Fr.own (Fr.refl _ _) _ _;have TM:∀q,q < w7.heap.size->v.ownBlock≠some q->v'.ownBlock≠some q:=λq hq hn e=>by
  rcases GP with e2|e2
  ·exact hn (e2▸e)
  ·rw[e2]at e;have:=Option.some.inj e;omega
 have Xw:Fr (λi=>v.ownBlock=some i) w7 w9:=Fr.grown hg λg e _=>e;have Qu:(s.putN e).edges.take 2049=s.edges.take 2049++ [e]:=zik hl;refine⟨⟨h.low,?_,TM b (ltq Hr hf.size) h.ne,cs++zs,?_,?_⟩,⟨?_,λq hq=>?_⟩⟩
 ·have:=FM.set_ 9 v';show Bk _ _ _ #[a0,a1,a2,a3,.int .i64 vars,sl,.int .i64 s.nodes,.int .i64 0,.int .i64 1,v']
  simpa using this
 ·rw[Qu,List.length_append];exact zaW Hg (Nat.lt_succ_self b) _
 ·rw[Qu];exact RowR.imp zbi (TQ.same λx hx=>⟨hx.2.1,λe=>by have e:x=b:=e;have:=hx.1;omega⟩) (λx hx=>⟨hx.1,ltq hx.2.1 TQ.size,hx.2.2⟩) TP
 ·exact((hf.any:Fr (MOwn b v) w w7).trans (Xw.mono λ_ _ e=> .inr e)).trans (TQ.mono λ_ _ e=> .inl e)
 ·rcases GP with e|e
  ·exact .inl (e▸hq)
  ·rw[e]at hq;have:=Option.some.inj hq;have:=hf.size;exact .inr (by omega)
theorem zj2 (h:RfS B b a0 a1 a2 a3 vars sl s v w)(h0:0<=s.nodes)(h1:s.nodes<=4611686018427387904):Calls Tryz.prog 142 #[.pointer (some ⟨b,0,none⟩)] w λe w'=>e= .returned (.int .i64 s.nodes)/\RfS B b a0 a1 a2 a3 vars sl s.node v w'/\Made b v v w w':=by
 have c2:=h.bk.cell 6;have f2:=h.bk.frozen 6;have hl:=h.bk.lt;simp only[getsL]at c2;have HS:=hdq (h.set (s.nodes+1));obtain⟨n,hn⟩:=nmq s.nodes;unfold FgS.node;rw[<-hn]at c2 h0 h1 HS ⊢;have e1:IntKind.i64.wrap (n+1)=n+1:=IntWalk.i64_in _ (by omega);have e2:n+1 - 1=n:=by omega
 have e3:IntKind.i64.wrap n=n:=IntWalk.i64_in _ (by omega);have e4:IntKind.i64.wrap (n+1 - 1)=n:=by rw[e2,e3]
 clear h hn;go_enter Tryz.func142,Tryz.ntmps142;go_wp2_with fail;go_ret;exact⟨rfl,HS.1,HS.2⟩
def RutS (b g:Nat)(v:Value)(kind n cmp:Int)(sl:Value)(W':World):Prop:=b < W'.heap.size/\g < W'.heap.size/\W'.cell? ⟨b,9,none⟩=some v/\W'.cell? ⟨g,0,none⟩=some (.int .u8 kind)/\W'.cell? ⟨g,1,none⟩=some (.int .i64 n)/\W'.cell? ⟨g,2,none⟩=some (.int .u8 cmp)/\W'.cell? ⟨g,3,none⟩=some sl
theorem zge {w0:World}(h0:RfS B b a0 a1 a2 a3 vars sl s v w0)(YT:Fr NoT w0 w)(from_ to_ at_ kind n cmp:Int)(G9:in64 from_/\in64 to_/\in8 kind/\in64 n/\in8 cmp/\in64 at_)(xs:Exs)(A:Option Addr)(c l:Nat)(hl:xs.len=l)(hx:SlR (λb o=>ExR w (New w0.heap.size w) True xs b o) xs.len 64 A c):
  Calls Tryz.prog 141 #[.pointer (some ⟨b,0,none⟩),.int .i64 from_,.int .i64 to_,.agg #[.int .u8 kind,.int .i64 n,.int .u8 cmp,.slice A l c],.int .i64 at_] w
   λe w'=>∃v',e= .returned (.tuple #[])/\RfS B b a0 a1 a2 a3 vars sl (s.putN ⟨from_,to_,kind,n,cmp,xs,at_⟩) v' w'/\Made b v v' w0 w':=by
 have h:=h0.fr0 YT;obtain⟨W,hW⟩:=nmq (w.alloc (.cells #[.int .u8 kind,.int .i64 n,.int .u8 cmp,.slice A l c] 60));have hf:Fr NoT w W:=by rw[hW];exact(Fr.refl _ _).alloc _
 have hk:Bk W w.heap.size 60 #[.int .u8 kind,.int .i64 n,.int .u8 cmp,.slice A l c]:=by rw[hW];exact Bk.new w _ _
 obtain⟨i0,hi,Fe,Gh,Gn⟩:=info_parts zml;have HI:=hdq (aiq hi (aiq Fe (aiq Gh Gn)));obtain⟨cs,GA,Jg⟩:=h0.row;obtain⟨m,hm⟩:=nmq ((s.edges.take 2049).length );have Fg:(s.edges.length<=2048/\m<=2048)\/(2048 < s.edges.length/\¬m<=2048):=by
  rw[hm,List.length_take];omega
 obtain⟨ao,cap,rfl⟩:∃ao cap,v= .slice ao m cap:=by
  rw[hm];rcases GA.2 with⟨hv,YU⟩|⟨g,cap,cur,hv,_⟩
  ·exact⟨_,_,by rw[hv,YU]⟩
  ·exact⟨_,_,hv⟩
 have HH:=hdq h0;have Kx:=hdq (aiq GA Jg);have HF:=hdq (YT.trans hf);have S8:=hdq YT;have HK:=hdq hk;have gQ:=hdq hW;have PL:=hdq G9;have h3:=h0.fr0 (YT.trans hf);have HS:Hid (∀W',Fr NoT W W'->RutS b w.heap.size (.slice ao m cap) kind n cmp (.slice A l c) W'):=
  hdq (λW' hf=>⟨ltq h3.bk.lt hf.size,ltq hk.lt hf.size,(h3.fr0 hf).bk.cell 9,(hk.fr0 hf).cell 0,(hk.fr0 hf).cell 1,(hk.fr0 hf).cell 2,(hk.fr0 hf).cell 3⟩)
 have Mx:=hdq (hx.imp λ_ _ h=>ExR.more (T:=λx=>w0.heap.size<=x/\x < W.heap.size) (λb hb=>⟨hb.1,ltq hb.2 hf.size⟩) (ExR.keep (hf.same λb hb=>⟨hb.2,id⟩) h));have kv:=hdq (show b < w0.heap.size from h0.bk.lt);have HL:=hdq hl;have c9:=h.bk.cell 9;have cl:=h.bk.lt;simp only[getsL]at c9;have HM:=hdq hm;clear h h0 G9 hx hl hW hf YT hk hi Fe Gh Gn GA Jg h3 hm;rcases Fg with⟨hle,xw⟩|⟨jX,kA⟩;rotate_left
 ·have Qe:¬(m:Int)<=2048:=by omega
  have HG:=hdq jX;clear jX kA;go_enter Tryz.func141,Tryz.ntmps141;go_wp2_with fail;rw[<-gQ.out];go_end0
  first
   |exact⟨_,rfl,(HH.fr0 HF.out).full _ HG.out,Made.of HF.out⟩
   |exact⟨rfl,_,(HH.fr0 HF.out).full _ HG.out,Made.of HF.out⟩
 have Qe:(m:Int)<=2048:=by omega
 have K9:=hdq hle;clear hle;go_enter Tryz.func141,Tryz.ntmps141;go_wp2_with fail;rw[<-gQ.out];clear c9 cl;refine zad (RutS b w.heap.size (.slice ao m cap) kind n cmp (.slice A l c)) (λi=>decide (i < 13)) (by kernel_rfl) (HS _ ((Fr.refl NoT W).drew)) (λhHeld=>?_);refine zaa 0 ?_;simp only[putsL];refine zaa 1 ?_;simp only[putsL];refine zaa 2 ?_;simp only[putsL];refine zaa 3 ?_;simp only[putsL];refine zaa 4 ?_;simp only[putsL];refine zaD 5 hHeld ?_;simp only[putsL];refine zaa 6 ?_;simp only[putsL];refine zaa 7 ?_;simp only[putsL];refine zaD 8 hHeld ?_;simp only[putsL];refine zaa 9 ?_;simp only[putsL];refine zaa 10 ?_;simp only[putsL];refine zab 11 rfl (by kernel_rfl) (λKK hK=>?_);go_simp;obtain⟨w8,GG⟩:=nmq ((W.alloc (.cells #[.int .i64 from_,.int .i64 to_,.int .u8 kind,.int .i64 n,.int .u8 cmp,.slice A l c,.int .i64 at_] 62)).drew );rw[<-GG];have Gj:Fr NoT W w8:=by rw[GG];exact((Fr.refl _ _).alloc _).drew
 have Hk:Bk w8 W.heap.size 62 ([.int .i64 from_,.int .i64 to_,.int .u8 kind,.int .i64 n,.int .u8 cmp,.slice A l c,.int .i64 at_]:List Value).toArray :=by rw[GG];exact(Bk.new _ _ _).fr0 ((Fr.refl _ _).drew)
 have FH:=HS w8 Gj;have GD:=hdq Gj;have Kf:=hdq Hk;have Fm:=hdq (za6 Kx.1 (HF.trans Gj));have MI:b+1<=w8.heap.size:=by have:=kv.out;have:=(HF.trans Gj).size;omega
 clear GG Gj Hk hHeld;try dsimp only
 refine hK _ _ (λ_ _=>FH) ?_;clear hK KK;try simp only[putsL]
 refine zab 12 rfl (by kernel_rfl) (λKK hK=>?_);refine step_append_lies _ (by rfl) _ _ _ (by rfl) (b+1) 62 i0 (.agg #[.int .i64 0,.int .i64 0,.int .u8 0,.int .i64 0,.int .u8 0,.slice none 0 0,.int .i64 0]) 7 72 Tryz.underlying51 HI.1 HI.2.1 HI.2.2.1 HI.2.2.2 rfl (by decide) (.slice ao m cap) m cs (by rfl) (by rw[HM.out];rw[<-HM.out];have h:=Fm.out;rw[<-HM.out]at h;exact h)
  ⟨W.heap.size,0,none⟩ 1 1 _ (by rfl) (by rfl) Kf.newsL (by simp[Value.oneCell']) (by omega) ?c63 (by omega) MI _ rfl ?_
 case c63=>unfold maxLen;omega
 intro gg cap' w9 Hg Hh GP L5;have Ns:(Value.slice (some ⟨gg,0,none⟩) (m+1) cap').ownBlock =(Value.slice ao m cap).ownBlock \/(Value.slice (some ⟨gg,0,none⟩) (m+1) cap').ownBlock =some w8.heap.size:=by
  rcases GP with e|e
  ·exact .inl e.symm
  ·exact .inr (by rw[e];rfl)
 have Lo:=HH.push (e:=⟨from_,to_,kind,n,cmp,xs,at_⟩) K9.out Kx.1 Kx.2 (HF.trans GD.out) ⟨A,c,by rw[HL.out],PL.out,by
  rw[HL.out];have hh:=Mx.out;rw[HL.out]at hh;exact hh.imp λ_ _ h=>ExR.more (λx hx=>⟨hx.1,ltq hx.2 GD.size⟩) (ExR.keep (GD.same λx hx=>⟨hx.2,id⟩) h)⟩ (by rw[<-HM.out];exact Hg) Hh Ns
 have GU:some b≠(Value.slice ao m cap).ownBlock :=λe=>HH.ne e.symm;have RM:some w.heap.size≠(Value.slice ao m cap).ownBlock :=λe=>by
  have:=(Kx.1.lt _ e.symm).2;have:=S8.size;omega
 have h8:=HH.fr0 (HF.trans GD.out);have f9:=(Hh.frozen_far ⟨b,9,none⟩ h8.bk.lt GU).trans (h8.bk.frozen 9);have q9:=(Hh.cell_far ⟨b,9,none⟩ h8.bk.lt GU).trans FH.2.2.1;have l9:b < w9.heap.size:=ltq h8.bk.lt Hh.size;have KJ:RutS b w.heap.size (.slice ao m cap) kind n cmp (.slice A l c) w9:=⟨l9,ltq FH.2.1 Hh.size,q9,(Hh.cell_far ⟨w.heap.size,0,none⟩ FH.2.1 RM).trans FH.2.2.2.1,(Hh.cell_far ⟨w.heap.size,1,none⟩ FH.2.1 RM).trans FH.2.2.2.2.1,(Hh.cell_far ⟨w.heap.size,2,none⟩ FH.2.1 RM).trans FH.2.2.2.2.2.1,(Hh.cell_far ⟨w.heap.size,3,none⟩ FH.2.1 RM).trans FH.2.2.2.2.2.2⟩;have TR:=hdq Lo;clear Ns Hg Hh GP h8 Lo GU RM FH MI;try dsimp only
 refine hK _ _ (λ_ _=>KJ) ?_;clear hK KK;try simp only[putsL]
 refine zab 13 rfl (by kernel_rfl) (λKK hK=>?_);go_simp;refine hK _ _ (λh=>absurd h (by decide)) ?_;clear hK KK;try simp only[putsL]
 refine zab 14 rfl (by kernel_rfl) (λKK hK=>?_);go_simp;refine hK _ _ (λh=>absurd h (by decide)) ?_;clear hK KK;try simp only[putsL]
 refine zab 15 rfl (by kernel_rfl) (λKK hK=>?_);go_simp;refine hK _ _ (λh=>absurd h (by decide)) ?_;clear hK KK;try simp only[putsL]
 refine zab 16 rfl (by kernel_rfl) (λKK hK=>?_);go_simp;refine hK _ _ (λh=>absurd h (by decide)) ?_;clear hK KK;try simp only[putsL]
 refine zai (by kernel_rfl) ?_;go_wp2_with fail;go_end0;exact⟨_,rfl,TR.1,TR.2⟩
end
