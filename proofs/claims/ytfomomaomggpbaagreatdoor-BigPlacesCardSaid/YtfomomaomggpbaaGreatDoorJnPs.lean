/- parse. -/
import Derived.Test.YtfomomaomggpbaaGreatDoorJgTre
set_option linter.all false
set_option maxHeartbeats 1600000
set_option maxRecDepth 100000
namespace Go.Proofs.YtfomomaomggpbaaGreatDoor
open Go.RowKit Go.Shelf
theorem zdm {s:List UInt8}:∀ {ts:List Tk} {p:Nat},Lies s p ts->ts.length+p<=s.length
 | [],p,h=>by have:=h.2;simpa using this
 |t::r,p,h=>by
  obtain⟨h1,h2,h3,_,_,_,h7⟩:=h;have:=zdm h7;rw[List.length_cons];omega
theorem zkG {s:List UInt8}:∀ {ts:List Tk} {p:Nat},Lies s p ts->∀t∈ts,t.at_+t.text.length<=s.length
 | [],_,_,t,ht=>by simp at ht
 |a::r,p,h,t,ht=>by
  obtain⟨_,h2,_,_,_,h6,h7⟩:=h;rcases List.mem_cons.1 ht with rfl|ht
  ·exact h2
  ·exact zkG h7 t ht
def endT (s:List UInt8):Tk:=⟨0, [],s.length⟩
theorem zpR {W:World}{P TB:Nat}{s:List UInt8}(he:NameEnv W)(h:(toks s).2.2 =0)(hP:W.heap.size<=P)(hT:W.heap.size<=TB)(Gh:P≠TB):Pcx.Ok ⟨W,P,TB,(toks s).1 ++ [endT s]⟩:=by
 obtain⟨hl,hs⟩:=zgl h;have hc:=zdm hl;have ha:=zkG hl;have Hb:∀t∈(toks s).1 ++ [endT s],t∈(toks s).1 \/t=endT s:=λt ht=>by simpa using ht
 refine⟨he,hP,Gh,hT,λt ht=>?_,λt ht=>?_,λt ht=>?_,?_,λi t ht hi=>?_⟩
 ·rcases Hb t ht with h|rfl
  ·exact .inl (hl.each t h)
  ·exact .inr ⟨rfl,rfl⟩
 ·rcases Hb t ht with h|rfl
  ·have:=ha t h;omega
  ·exact Nat.zero_le _
 ·rcases Hb t ht with h|rfl
  ·have:=ha t h;omega
  ·exact hs
 ·show((toks s).1 ++ [endT s]).length <=5000
  rw[List.length_append,List.length_cons,List.length_nil];omega
 ·have hi:i=(toks s).1.length :=by
   have hi:i+1=((toks s).1 ++ [endT s]).length :=hi;rw[List.length_append,List.length_cons,List.length_nil]at hi;omega
  have ht:((toks s).1 ++ [endT s])[i]?=some t:=ht;rw[hi,List.getElem?_append_right (aL _),Nat.sub_self]at ht;have ht:endT s=t:=by simpa using ht
  subst ht;exact⟨rfl,rfl⟩
theorem zpS:∀(l:List Tk)(i:Nat)(t:Tk),l[i]?=some t->∀k,k < 3->(l.flatMap tkC)[i*3+k]?=(tkC t)[k]?
 | [],i,t,h,k,hk=>by simp at h
 |a::l,0,t,h,k,hk=>by
  have h:a=t:=by simpa using h
  subst h;rw[List.flatMap_cons,List.getElem?_append_left (by simp[tkC];omega)];simp
 |a::l,i+1,t,h,k,hk=>by
  rw[List.flatMap_cons,List.getElem?_append_right (by simp[tkC];omega)];have:=zpS l i t (by simpa using h) k hk;rw[<-this]
  congr 1
  simp[tkC];omega
theorem zmV {W w:World}{P g cap n base:Nat}{s:List UInt8}(hb:Below W.heap.size W w)(hn:n=(toks s).1.length +1)(ho:w.ownsRow base 164 3 (.slice (some ⟨g,0,none⟩) n cap) n (((toks s).1 ++ [endT s]).flatMap tkC))(hc:n<=cap)(hm:cap<=9223372036854775807)
  (hP:Bk w P 166 #[.slice (some ⟨g,0,none⟩) n cap,.int .i64 0]):PaAt ⟨W,P,g,(toks s).1 ++ [endT s]⟩ w ((toks s).1 ++ [endT s]) 0:=by
 subst hn;have hlen:((toks s).1 ++ [endT s]).length =(toks s).1.length +1:=by simp
 refine⟨hb,λi t ht k hk=>?_,ho.lt g rfl |>.2,by simp,0,cap,rfl,by rw[hlen];exact hc,hm,?_⟩
 ·have ht:((toks s).1 ++ [endT s])[i]?=some t:=ht;have hi:=(List.getElem?_eq_some_iff.1 ht).1;have:=ho.cellAt (i*3+k) (by rw[hlen]at hi;omega);rw[zpS _ i t ht k hk]at this;exact this
 ·show Bk w P _ #[.slice (some ⟨g,0*3,none⟩) ((toks s).1 ++ [endT s]).length cap,.int .i64 ((0:Nat):Int)]
  rw[hlen];exact hP
theorem zhr (p q r:Addr)(w:World):
  CallsD Tryz.prog 62 #[.pointer (some p),.pointer (some q),.pointer (some r)] .returning w λe u' w'=>e= .returned (.tuple #[])/\u'= .returning /\w'=w:=by
 refine callsD_of_wpS Tryz.func62 rfl λc₀ cs hu=>?_;simp only[Tryz.ntmps62,List.size_toArray,List.length_cons,List.length_nil,Nat.reduceAdd,Nat.reduceSub,Array.replicate_succ,Array.replicate_zero,List.push_toArray,List.append_toArray,List.nil_append,List.cons_append];apply wpS_seq;apply wpS_region;generalize hK:Exit.thenS _ _=K;have HK:=aA hK;clear hK;simp[wpOpsS,go_sem,recoverD,hu];have JE:=HK.out;clear HK;subst JE;simp only[Exit.thenS];refine wpS_of_wp ?_;generalize hQ:(λe a' w'=>bodyPostS _ _ _ _ _ e a' _ w')=Q;have HQ:=aA hQ;clear hQ;go_wp2;have T8:=HQ.out;clear HQ;subst T8;cases c₀
 simp_all [bodyPostS,results,Tryz.results62]
def Box3 (w:World)(B:Nat)(cs:Array Value)(a e:Int):Prop:=Bk w B 27 cs/\Bk w (B+1) 3 #[.int .i64 a]/\Bk w (B+2) 35 #[.int .i64 e]
theorem Box3.fr {w w':World}{B:Nat}{cs:Array Value}{a e:Int}{T:Nat->Prop}(h:Box3 w B cs a e)(hf:Fr T w w')(h0:¬T B)(h1:¬T (B+1))(h2:¬T (B+2)):Box3 w' B cs a e:=
 ⟨h.1.fr hf h0,h.2.1.fr hf h1,h.2.2.fr hf h2⟩
theorem Box3.fr0 {w w':World}{B:Nat}{cs:Array Value}{a e:Int}(h:Box3 w B cs a e)(hf:Fr NoT w w'):Box3 w' B cs a e:=h.fr hf id id id
theorem Box3.at_ {w:World}{B:Nat}{cs:Array Value}{a e:Int}(h:Box3 w B cs a e)(a':Int):Box3 (w.setCell ⟨B+1,0,none⟩ (.int .i64 a')) B cs a' e:=
 ⟨h.1.far (p:=⟨B+1,0,none⟩) (by show B≠B+1;omega) _,by simpa using h.2.1.set_ 0 (.int .i64 a'),h.2.2.far (p:=⟨B+1,0,none⟩) (by show B+2≠B+1;omega) _⟩
theorem Box3.er {w:World}{B:Nat}{cs:Array Value}{a e:Int}(h:Box3 w B cs a e)(e':Int):Box3 (w.setCell ⟨B+2,0,none⟩ (.int .i64 e')) B cs a e':=
 ⟨h.1.far (p:=⟨B+2,0,none⟩) (by show B≠B+2;omega) _,h.2.1.far (p:=⟨B+2,0,none⟩) (by show B+1≠B+2;omega) _,by simpa using h.2.2.set_ 0 (.int .i64 e')⟩
theorem Box3.tr {w:World}{B:Nat}{v0 v1 v2 v3:Value}{a e:Int}(h:Box3 w B #[v0,v1,v2,v3] a e)(u0 u1 u2 u3:Value):Box3 ((((w.setCell ⟨B,0,none⟩ u0).setCell ⟨B,1,none⟩ u1).setCell ⟨B,2,none⟩ u2).setCell ⟨B,3,none⟩ u3) B #[u0,u1,u2,u3] a e:=by
 have n3:B+1≠B:=by omega
 have n5:B+2≠B:=by omega
 refine⟨by simpa using (((h.1.set_ 0 u0).set_ 1 u1).set_ 2 u2).set_ 3 u3,?_,?_⟩
 ·exact(((h.2.1.far (p:=⟨B,0,none⟩) n3 u0).far (p:=⟨B,1,none⟩) n3 u1).far (p:=⟨B,2,none⟩) n3 u2).far (p:=⟨B,3,none⟩) n3 u3
 ·exact(((h.2.2.far (p:=⟨B,0,none⟩) n5 u0).far (p:=⟨B,1,none⟩) n5 u1).far (p:=⟨B,2,none⟩) n5 u2).far (p:=⟨B,3,none⟩) n5 u3
theorem Box3.cells {w:World}{B:Nat}{v0 v1 v2 v3:Value}{a e:Int}(h:Box3 w B #[v0,v1,v2,v3] a e):
  (w.cell? ⟨B,0,none⟩=some v0/\w.cell? ⟨B,1,none⟩=some v1/\w.cell? ⟨B,2,none⟩=some v2/\w.cell? ⟨B,3,none⟩=some v3/\w.cell? ⟨B+1,0,none⟩=some (.int .i64 a)/\w.cell? ⟨B+1+1,0,none⟩=some (.int .i64 e))/\
  (w.frozen? ⟨B,0,none⟩=false/\w.frozen? ⟨B,1,none⟩=false/\w.frozen? ⟨B,2,none⟩=false/\w.frozen? ⟨B,3,none⟩=false/\w.frozen? ⟨B+1,0,none⟩=false/\w.frozen? ⟨B+1+1,0,none⟩=false)/\B < w.heap.size/\B+1 < w.heap.size/\B+1+1 < w.heap.size:=
 ⟨⟨h.1.cell 0,h.1.cell 1,h.1.cell 2,h.1.cell 3,h.2.1.cell 0,h.2.2.cell 0⟩,⟨h.1.frozen 0,h.1.frozen 1,h.1.frozen 2,h.1.frozen 3,h.2.1.frozen 0,h.2.2.frozen 0⟩,h.1.lt,h.2.1.lt,h.2.2.lt⟩
def noTr:Array Value:= #[.slice none 0 0,.slice none 0 0,.slice none 0 0,.slice none 0 0]
theorem zgL (B:Nat)(c a:Int)(v0 v1 v2 v3:Value)(a0 e0:Int)(older:List PanicEntry)(w:World)(hb:Box3 w B #[v0,v1,v2,v3] a0 e0):
  CallsD Tryz.prog 62 #[.pointer (some ⟨B,0,none⟩),.pointer (some ⟨B+1,0,none⟩),.pointer (some ⟨B+2,0,none⟩)] (.panicking ({v:= .iface 161 (.agg #[.int .i64 c,.int .i64 a]),recovered:=false}::older)) w λe u' w'=>
   e= .returned (.tuple #[])/\u'= .panicking ({v:= .iface 161 (.agg #[.int .i64 c,.int .i64 a]),recovered:=true}::older)/\Box3 w' B noTr a c/\Below B w w':=by
 obtain⟨Gd,Gz,G2⟩:=hb;have Nx:=Gd.lt;have Fw:=Gz.lt;have FM:=G2.lt;refine callsD_of_wpS Tryz.func62 rfl λc₀ cs hu=>?_;simp only[Tryz.ntmps62,List.size_toArray,List.length_cons,List.length_nil,Nat.reduceAdd,Nat.reduceSub,Array.replicate_succ,Array.replicate_zero,List.push_toArray,List.append_toArray,List.nil_append,List.cons_append];apply wpS_seq;apply wpS_region;generalize hK:Exit.thenS _ _=K;have HK:=aA hK;clear hK;simp[wpOpsS,go_sem,recoverD,hu];have JE:=HK.out;clear HK;subst JE;simp only[Exit.thenS];refine wpS_of_wp ?_;generalize hQ:(λe a' w'=>bodyPostS _ _ _ _ _ e a' _ w')=Q;have HQ:=aA hQ;clear hQ;have HU:=aA hu;clear hu;have NG:∀W:World,(Instr.typeAssert (.iface 161 (.agg #[.int .i64 c,.int .i64 a])) 20 161 true).run Tryz.prog W= .ok (.tuple #[.agg #[.int .i64 c,.int .i64 a],.bool true]) W:=λ_=>by kernel_rfl
 have b0:=Gd.cell 0;have b1:=Gd.cell 1;have b2:=Gd.cell 2;have b3:=Gd.cell 3;have f0:=Gd.frozen 0;have f1:=Gd.frozen 1;have f2:=Gd.frozen 2;have f3:=Gd.frozen 3;have d0:=Gz.cell 0;have d1:=Gz.frozen 0;have d2:=G2.cell 0;have d3:=G2.frozen 0;simp only[aD]at b0 b1 b2 b3 d0 d2;have Rv:=aA Gd;have Gw:=aA Gz;have LR:=aA G2;clear Gd Gz G2;go_wp2_with fail
 go_region
 all_goals
  go_wp2_with fail;have T8:=HQ.out;clear HQ NG;subst T8;have n1:B≠B+1:=by omega
  have n2:B≠B+2:=by omega
  have n3:B+1≠B:=by omega
  have n4:B+1≠B+2:=by omega
  have n5:B+2≠B:=by omega
  have n6:B+2≠B+1:=by omega
  have g0:=((((((((Rv.set_ 0 (.slice none 0 0)).set_ 1 (.slice none 0 0)).set_ 2 (.slice none 0 0)).set_ 3 (.slice none 0 0)).far (p:=⟨B+1,0,none⟩) n1 (.int .i64 a)).far (p:=⟨B+2,0,none⟩) n2 (.int .i64 c))).alloc (.cells #[.int .i64 c,.int .i64 a] 161)).fr0 (Fr.drew aI);have g1:=((((((((Gw.far (p:=⟨B,0,none⟩) n3 (.slice none 0 0)).far (p:=⟨B,1,none⟩) n3 (.slice none 0 0)).far (p:=⟨B,2,none⟩) n3 (.slice none 0 0)).far (p:=⟨B,3,none⟩) n3 (.slice none 0 0)).set_ 0 (.int .i64 a)).far (p:=⟨B+2,0,none⟩) n4 (.int .i64 c))).alloc (.cells #[.int .i64 c,.int .i64 a] 161)).fr0 (Fr.drew aI);have g2:=((((((((LR.far (p:=⟨B,0,none⟩) n5 (.slice none 0 0)).far (p:=⟨B,1,none⟩) n5 (.slice none 0 0)).far (p:=⟨B,2,none⟩) n5 (.slice none 0 0)).far (p:=⟨B,3,none⟩) n5 (.slice none 0 0)).far (p:=⟨B+1,0,none⟩) n6 (.int .i64 a)).set_ 0 (.int .i64 c))).alloc (.cells #[.int .i64 c,.int .i64 a] 161)).fr0 (Fr.drew aI);refine⟨rfl,_,rfl,_,by simp[results,Tryz.results62],rfl,rfl,⟨?_,?_,?_⟩,?_⟩
  ·simpa[noTr]using g0
  ·simpa[noTr]using g1
  ·simpa[noTr]using g2
  ·exact Below.drew ((((((((Below.refl _ _).setCell (by simp) _).setCell (by simp) _).setCell (by simp) _).setCell (by simp) _).setCell (by simp) _).setCell (by simp) _).alloc (by simp;omega) _)
def zpT (q:Tre×Int×Int)(W:World)(e:Ending)(w':World):Prop:=
 ∃Av Aa Ap Am cv ca cp cm,e= .returned (.tuple #[trV q.1 Av Aa Ap Am cv ca cp cm,.int .i64 q.2.1,.int .i64 q.2.2])/\TrR w' (New W.heap.size w') False q.1 Av Aa Ap Am cv ca cp cm/\Below W.heap.size W w'
def noT:Tre:=⟨[], [], [],.nil⟩
theorem noT_R (w:World)(S:Nat->Prop):TrR w S False noT none none none none 0 0 0 0:=
 ⟨⟨aL 0,⟨by decide,by decide⟩,λh=>absurd h (Nat.lt_irrefl 0)⟩,⟨aL 0,⟨by decide,by decide⟩,λh=>absurd h (Nat.lt_irrefl 0)⟩,⟨aL 0,⟨by decide,by decide⟩,λh=>absurd h (Nat.lt_irrefl 0)⟩,⟨aL 0,⟨by decide,by decide⟩,λh=>absurd h (Nat.lt_irrefl 0)⟩⟩
theorem zik {q:Tre×Int×Int}{a e:Int}{W w':World}(h:q=(noT,a,e))(hb:Below W.heap.size W w'):zpT q W (.returned (.tuple #[.agg noTr,.int .i64 a,.int .i64 e])) w':=by
 subst h;exact⟨none,none,none,none,0,0,0,0,rfl,noT_R _ _,hb⟩
theorem zb8 {X:World}{B:Nat}{v0 v1 v2 v3:Value}{a e:Int}{R:Ending->World->Prop}{x0 x1:Value}{rest:List Value}(h:Box3 X B #[v0,v1,v2,v3] a e)(hR:R (.returned (.tuple #[.agg #[v0,v1,v2,v3],.int .i64 a,.int .i64 e])) X):
  Leaves Tryz.prog Tryz.f29 (List.toArray (x0::x1:: .pointer (some ⟨B,0,none⟩):: .pointer (some ⟨B+1,0,none⟩):: .pointer (some ⟨B+2,0,none⟩)::rest)) R [] .returning X:=by
 obtain⟨⟨c0,c1,c2,c3,c4,c5⟩,_,k0,k1,k2⟩:=h.cells;refine⟨_,?_,hR⟩;simp[results,Tryz.results29,go_sem,c0,c1,c2,c3,c4,c5,k0,k1,k2]
theorem zkH (s:ByteArray)(hs:s.size<=9223372036854775807)(w:World)(he:NameEnv w):Calls Tryz.prog 29 #[.string s] w (zpT (zcN s.data.toList) w):=by
 have JI:= @makeF Tryz.prog;obtain⟨i0,hi,Fg,Hw,G5⟩:=info_parts znP;have HI:=aA (aG hi (aG Fg (aG Hw G5)));clear hi Fg Hw G5;obtain⟨w1,Hc⟩:=aF (((w.alloc (.cells #[.slice none 0 0,.slice none 0 0,.slice none 0 0,.slice none 0 0] 27)).alloc (.cells #[.int .i64 0] 3)).alloc (.cells #[.int .i64 0] 35));have Gz:Below w.heap.size w w1:=by rw[Hc];exact(((Fr.refl NoT w).alloc _).alloc _ |>.alloc _).plain
 have Wv:Box3 w1 w.heap.size noTr 0 0:=by
  rw[Hc];exact⟨((Bk.new _ _ _).alloc _).alloc _,(Bk.new_at _ _ _ (by simp)).alloc _,Bk.new_at _ _ _ (by simp)⟩
 have HT:=aA (ziS s hs w1 (he.lex.keep Gz));obtain⟨q,hq⟩:=aF (toks s.data.toList);rw[<-hq]at HT;have Ge:=aA Hc;have Gw:=aA Gz;have R9:=aA Wv;have HE:=aA he;have HQ:=aA hq;clear Hc Gz Wv he hq
 go_enter_defers Tryz.func29,Tryz.ntmps29
 go_wp2_with fail;rw[<-Ge.out];refine HT.mono ?_;rintro _ w2 ⟨v,rfl,Ha,G2⟩;have GK:=R9.fr0 (Fr.below G2);obtain⟨⟨b0,b1,b2,b3,d0,d2⟩,⟨f0,f1,f2,f3,d1,d3⟩,Nx,Fw,FM⟩:=GK.cells;have N8:=aA GK;have Hu:=aA ((show Fr NoT w w1 from Fr.below Gw.out).trans (Fr.below G2));have HO:=aA Ha;have Hc:w1.heap.size=w.heap.size+3:=by rw[Ge.out];simp
 obtain⟨ts,pl,er⟩:=q;clear Ha G2 HT R9 GK;by_cases Sa:er=0
 rotate_left
 ·have e1:(er != 0)=true:=by simpa using Sa
  have HP:=aA (show zcN s.data.toList=(noT,(pl:Int),er)from by unfold zcN;rw[<-HQ.out];simp only;rw[if_pos Sa];rfl);clear Sa HO;go_wp2_with fail
  go_region
  all_goals
   go_wp2_with fail;have L3:=(((((N8.at_ pl).er er).tr (.slice none 0 0) (.slice none 0 0) (.slice none 0 0) (.slice none 0 0)).at_ pl).er er).fr0 (Fr.drew aI);have T9:Below w.heap.size w _:=((((((((((Hu.plain.setCell (p:=⟨w.heap.size+1,0,none⟩) (by show w.heap.size<=w.heap.size+1;omega) (.int .i64 pl)).setCell (p:=⟨w.heap.size+2,0,none⟩) (by show w.heap.size<=w.heap.size+2;omega) (.int .i64 er)).setCell (p:=⟨w.heap.size,0,none⟩) (aL _) (.slice none 0 0)).setCell (p:=⟨w.heap.size,1,none⟩) (aL _) (.slice none 0 0)).setCell (p:=⟨w.heap.size,2,none⟩) (aL _) (.slice none 0 0)).setCell (p:=⟨w.heap.size,3,none⟩) (aL _) (.slice none 0 0)).setCell (p:=⟨w.heap.size+1,0,none⟩) (by show w.heap.size<=w.heap.size+1;omega) (.int .i64 pl)).setCell (p:=⟨w.heap.size+2,0,none⟩) (by show w.heap.size<=w.heap.size+2;omega) (.int .i64 er)).drew));exact zb8 L3 (zik HP.out T9)
 ·subst Sa;obtain⟨n,hn⟩:=aF ts.length;have ZG:(toks s.data.toList).2.2 =0:=by rw[<-HQ.out]
  have ZH:(toks s.data.toList).1 =ts:=by rw[<-HQ.out]
  have Mb:=zgl ZG;rw[ZH]at Mb;have Ww:=zdm Mb.1;have L4:zcN s.data.toList=match zi4 (ts++ [endT s.data.toList])with| .ok t _=>(t,0,0)| .err e a=>(noT,a,e):=by
   unfold zcN;rw[<-HQ.out];simp only;rw[if_neg (by simp)];rfl
  have Py:=aA L4;have Yc:=aA ZH;have vI:=aA ZG;have ZI:=aA hn;rw[zbQ]at Mb Ww;have FW:n<=4096:=by have:=Mb.2;omega
  have Hx:s.size<=4096:=Mb.2;have Fh:=aA (show ∀cs:Array Value,(((w2.setCell ⟨w.heap.size+1,0,none⟩ (.int .i64 pl)).setCell ⟨w.heap.size+1+1,0,none⟩ (.int .i64 0)).alloc (.cells cs 164)).ownsRow w1.heap.size 164 3 v n (ts.flatMap tkC)from λcs=>by
   have h1:=ownsRow_setCell_below HO.out (a:=⟨w.heap.size+1,0,none⟩) (by show w.heap.size+1 < _;omega) (.int .i64 pl);have h2:=ownsRow_setCell_below h1 (a:=⟨w.heap.size+1+1,0,none⟩) (by show w.heap.size+1+1 < _;omega) (.int .i64 0);rw[hn];exact h2.alloc _)
  have Yd:tkC (endT s.data.toList)= [.int .u8 0,.string ⟨#[]⟩,.int .i64 (s.size:Int)]:=by simp[tkC,endT]
  have Mc:=aA (λb hb=>(HO.lt b hb).1);clear hn ZG ZH Mb Ww L4 HO;go_wp2_with (at_builtin;refine wpList_append_lies _ rfl _ _ 157 rfl w1.heap.size 164 i0 (.agg #[.int .u8 0,.string ⟨#[]⟩,.int .i64 0]) 3 32 Tryz.underlying157 HI.1 HI.2.1 HI.2.2.1 HI.2.2.2 rfl (by decide) v n (ts.flatMap tkC) rfl (Fh _) ⟨w2.heap.size,0,none⟩ 1 1 (tkC (endT s.data.toList)) rfl rfl ?c1 ?c2 (by decide) ?c3 ?c4 ?c5 (w2.heap.size+1) ?c6 ?_);case c1=>
   rw[Yd];exact(Bk.new_at _ 164 #[.int .u8 0,.string ⟨#[]⟩,.int .i64 (s.size:Int)] (by simp)).news
  case c2=>
   intro u hu;rw[Yd]at hu;simp only[List.mem_cons,List.not_mem_nil,or_false]at hu;rcases hu with rfl|rfl|rfl<;>rfl
  case c3=>unfold maxLen;omega
  case c4=>omega
  case c5=>simp;omega
  case c6=>simp
  intro g cap w9 Ha Hf GN Hk;have ZJ:Box3 w9 w.heap.size noTr pl 0:=(((N8.at_ pl).er 0).fr0 (aI.alloc (.cells #[.int .u8 0,.string ⟨#[]⟩,.int .i64 s.size] 164))).fr (Fr.grown (T:=λb=>w.heap.size+3<=b) Hf λb hb _=>by have:=(Mc b hb);omega) (by omega) (by omega) (by omega);have ZK:Fr (λb=>w.heap.size<=b) w w9:=(((((Hu.mono λ_ _ h=>h.elim).setCell (p:=⟨w.heap.size+1,0,none⟩) (.inr (by show w.heap.size<=w.heap.size+1;omega)) (.int .i64 pl)).setCell (p:=⟨w.heap.size+1+1,0,none⟩) (.inr (by show w.heap.size<=w.heap.size+1+1;omega)) (.int .i64 0)).alloc (.cells #[.int .u8 0,.string ⟨#[]⟩,.int .i64 s.size] 164))).trans (Fr.grown (T:=λb=>w.heap.size<=b) Hf λb hb _=>by have:=(Mc b hb);omega);have GY:=Ha.lt g rfl;obtain⟨A0,c0,Gq,GC,G7⟩:=zgE Ha;simp only[Value.slice.injEq]at Gq;obtain⟨rfl,_,rfl⟩:=Gq;have PP:=ZK.size;have zY:w.heap.size+2 < w9.heap.size:=ZJ.2.2.lt;have Ua:Fr (λb=>w.heap.size<=b) w (w9.alloc (.cells #[.slice (some ⟨g,0,none⟩) (n+1) cap,.int .i64 0] 166)):=ZK.alloc _;have hk:Pcx.Ok ⟨w,w9.heap.size,g,ts++ [endT s.data.toList]⟩:=by
   have:=zpR (P:=w9.heap.size) (TB:=g) HE.out vI.out PP (by omega) (by omega);rw[Yc.out]at this;exact this
  have GP:PaAt ⟨w,w9.heap.size,g,ts++ [endT s.data.toList]⟩ (w9.alloc (.cells #[.slice (some ⟨g,0,none⟩) (n+1) cap,.int .i64 0] 166)) (ts++ [endT s.data.toList]) 0:=by
   have:=zmV (W:=w) (P:=w9.heap.size) (g:=g) (cap:=cap) (n:=n+1) (base:=w.heap.size+3) (s:=s.data.toList) (w:=w9.alloc (.cells #[.slice (some ⟨g,0,none⟩) (n+1) cap,.int .i64 0] 166)) (Ua.to_below (aL _) λi hi h=>absurd h (by omega)) (by rw[Yc.out,ZI.out]) (by rw[Yc.out,List.flatMap_append,List.flatMap_cons,List.flatMap_nil,List.append_nil,Yd];exact Ha.alloc _) GC G7 (Bk.new _ _ _);rw[Yc.out]at this;exact this
  have ZL:=aA (zmU _ _ _ hk GP);have Wx:=aA (ZJ.fr0 ((Fr.refl NoT w9).alloc (.cells #[.slice (some ⟨g,0,none⟩) (n+1) cap,.int .i64 0] 166)));have G4:=aA Ua;clear Ha Hf GN ZJ ZK Ua hk GP GY Fh b0 b1 b2 b3 d0 d2 f0 f1 f2 f3 d1 d3 Nx Fw FM N8 Hu GC G7 Yd;go_wp2_with fail;refine ZL.mono ?_;intro e w11 hT;unfold TrV at hT;cases hr:zi4 (ts++ [endT s.data.toList])with
  |err c a=>
   rw[hr]at hT;obtain⟨rfl,hf⟩:=hT;have KZ:=Wx.fr hf (λe=>by have e:w.heap.size=w9.heap.size:=e;omega) (λe=>by have e:w.heap.size+1=w9.heap.size:=e;omega) (λe=>by have e:w.heap.size+2=w9.heap.size:=e;omega);have Sb:=G4.trans (hf.mono λi _ h=>by have h:i=w9.heap.size:=h;show w.heap.size<=i;omega);have HP:=aA (show zcN s.data.toList=(noT,a,c)from by rw[Py.out,hr]);clear hf hr ZL Py;unfold zaf;go_wp2_with fail;refine leaves_cons (f:=62) (args:= #[.pointer (some ⟨w.heap.size,0,none⟩),.pointer (some ⟨w.heap.size+1,0,none⟩),.pointer (some ⟨w.heap.size+2,0,none⟩)]) (by simp) (by simp[go_sem]) ?_;refine(zgL w.heap.size c a _ _ _ _ _ _ [] _ KZ).mono ?_;rintro e u' xt ⟨rfl,rfl,ZM,T9⟩;exact zb8 ZM (zik HP.out ((Sb.to_below (aL _) λi hi h=>absurd h (by omega)).trans T9))
  |ok t r=>
   rw[hr]at hT;obtain⟨Av,Aa,Ap,Am,cv,ca,cp,cm,rfl,jM,hf⟩:=hT;have KZ:=Wx.fr hf (λe=>by have e:w.heap.size=w9.heap.size:=e;omega) (λe=>by have e:w.heap.size+1=w9.heap.size:=e;omega) (λe=>by have e:w.heap.size+2=w9.heap.size:=e;omega);have Sb:=G4.trans (hf.mono λi _ h=>by have h:i=w9.heap.size:=h;show w.heap.size<=i;omega);obtain⟨⟨b0,b1,b2,b3,d0,d2⟩,⟨f0,f1,f2,f3,d1,d3⟩,Nx,Fw,FM⟩:=KZ.cells;have HP:=aA (show zcN s.data.toList=(t,0,0)from by rw[Py.out,hr]);have ZN:=aA KZ;have KG:=aA jM;have ZO:=aA Sb;clear hf hr ZL Py KZ jM Sb;unfold trV;go_wp2_with fail;refine leaves_cons (f:=62) (args:= #[.pointer (some ⟨w.heap.size,0,none⟩),.pointer (some ⟨w.heap.size+1,0,none⟩),.pointer (some ⟨w.heap.size+2,0,none⟩)]) (by simp) (by simp[go_sem]) ?_;refine(zhr _ _ _ _).mono ?_;rintro e u' w'' ⟨rfl,rfl,rfl⟩;refine zb8 (((ZN.tr _ _ _ _).at_ 0).er 0) ?_;rw[HP.out];have ZP:Fr (λb=>w.heap.size<=b/\b<=w.heap.size+2) w11 ((((((w11.setCell ⟨w.heap.size,0,none⟩ (.slice Av t.vars.length cv)).setCell ⟨w.heap.size,1,none⟩ (.slice Aa t.arrays.length ca)).setCell ⟨w.heap.size,2,none⟩ (.slice Ap t.procs.length cp)).setCell ⟨w.heap.size,3,none⟩ (.slice Am t.main.len cm)).setCell ⟨w.heap.size+1,0,none⟩ (.int .i64 0)).setCell ⟨w.heap.size+2,0,none⟩ (.int .i64 0)):=
    (((((aH.setCell (.inl ⟨aL _,by show w.heap.size<=_;omega⟩) _).setCell (.inl ⟨aL _,by show w.heap.size<=_;omega⟩) _).setCell (.inl ⟨aL _,by show w.heap.size<=_;omega⟩) _).setCell (.inl ⟨aL _,by show w.heap.size<=_;omega⟩) _).setCell (.inl ⟨by show w.heap.size<=w.heap.size+1;omega,by show w.heap.size+1<=_;omega⟩) _).setCell (.inl ⟨by show w.heap.size<=w.heap.size+2;omega,aL _⟩) _
   have vJ:=ZP.size;refine⟨Av,Aa,Ap,Am,cv,ca,cp,cm,rfl,(KG.keep (ZP.same λb hb=>⟨hb.2,λe=>?_⟩)).more λb hb=>⟨?_,aM hb.2 vJ⟩,?_⟩
   ·have h1:=hb.1;have h2:=e.2;simp only[World.size_alloc]at h1;omega
   ·exact(ZO.trans (ZP.mono λi _ h=>h.1)).to_below (aL _) λi hi h=>absurd h (by omega)
   ·have h1:=hb.1;simp only[World.size_alloc]at h1;omega
