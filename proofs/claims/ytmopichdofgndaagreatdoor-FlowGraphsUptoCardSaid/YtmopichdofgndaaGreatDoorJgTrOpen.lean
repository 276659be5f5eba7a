/- A tree that came in as an argument: what memory holds of it. -/
import Derived.Test.YtmopichdofgndaaGreatDoorJnCkC
import Derived.ChangeArms
import Derived.OpenShut
import Derived.SizedLaws
set_option linter.all false
set_option maxRecDepth 100000
namespace Go.Proofs.YtmopichdofgndaaGreatDoor
open Go.RowKit Go.Shelf Go.ChangeShapes Go.WideShapes
section
variable {H:Type} {P:Program}
def WtOk (P:Program)(t:TypeId)(d:DataW H):Prop:=(DataW.weights P t d).all (λx=>decide (x<=reachBytes))=true
theorem zf3 {e:TypeId}{d:DataW H}:∀ {l:List (DataW H)},d∈l->(DataW.weightsAll P e l).all (λx=>decide (x<=reachBytes))=true->WtOk P e d
 | [],h,_=>by simp at h
 |a::r,h,hw=>by
  simp only[DataW.weightsAll,List.all_append,Bool.and_eq_true]at hw;rcases List.mem_cons.1 h with rfl|h
  ·exact hw.1
  ·exact zf3 h hw.2
theorem zcT:∀ {ts:List TypeId} {ds:List (DataW H)} {j:Nat} {t:TypeId} {d:DataW H},ts[j]?=some t->ds[j]?=some d->(DataW.weightsEach P ts ds).all (λx=>decide (x<=reachBytes))=true->WtOk P t d
 | [],_,_,_,_,h,_,_=>by simp at h
 |_::_, [],_,_,_,_,h,_=>by simp at h
 |a::ts,b::ds,0,t,d,h1,h2,hw=>by
  simp only[DataW.weightsEach,List.all_append,Bool.and_eq_true]at hw;simp only[List.getElem?_cons_zero,Option.some.injEq]at h1 h2;rw[<-h1,<-h2];exact hw.1
 |a::ts,b::ds,j+1,t,d,h1,h2,hw=>by
  simp only[DataW.weightsEach,List.all_append,Bool.and_eq_true]at hw;simp only[List.getElem?_cons_succ]at h1 h2;exact zcT h1 h2 hw.2
theorem zb9 {t e:TypeId}(ht:P.underlying t=some (.slice e)){E R:List (DataW H)}(h:WtOk P t (.slice E R)):(E.length+R.length)*P.bytesOf e<=reachBytes/\∀d∈E,WtOk P e d:=by
 unfold WtOk at h;simp only[DataW.weights,ht,List.all_cons,List.all_append,Bool.and_eq_true,decide_eq_true_eq]at h;exact⟨h.1,λd hd=>zf3 hd h.2.1⟩
theorem zaH {t:TypeId}{fs:Array Field}(ht:P.underlying t=some (.struct fs)){ys:List (DataW H×List MemPlace)}(h:WtOk P t (.agg (ys.map (·.1)))){j:Nat}{f:Field}{z:DataW H×List MemPlace}(hf:fs[j]?=some f)(hz:ys[j]?=some z):WtOk P f.type z.1:=by
 unfold WtOk at h;simp only[DataW.weights,ht]at h;refine zcT (j:=j) (t:=f.type) (d:=z.1) ?_ ?_ h
 ·simp[hf]
 ·simp[hz]
end
section
variable {H:Type} {enc:TypeId×Value->H} {w:World} {base:Nat} {spare:Nat->Bool} {held:Bool}
theorem zch {a:Addr}{v:Value}(h:w.cell? a=some v):a.block < w.heap.size/\a.spot=none:=by
 unfold World.cell? at h;cases hb:w.heap[a.block]? with
 |none=>rw[hb]at h;exact absurd h (by simp)
 |some o=>
  refine⟨(Array.getElem?_eq_some_iff.1 hb).1,?_⟩;rw[hb]at h;cases o<;>simp at h;all_goals first|exact h.1|(cases hs:a.spot<;>simp_all)
theorem zcG {cs:List Value}{off:Nat}{v:Value}(h:cs[off]?=some v):(cs.drop off).take 1= [v]:=by
 obtain⟨hi,rfl⟩:=List.getElem?_eq_some_iff.1 h;rw[List.drop_eq_getElem_cons hi];rfl
theorem zaV {k:IntKind}{t:TypeId}{n:Nat}{off:Nat}{cs:List Value}{y:DataW H×List MemPlace}(ht:Tryz.prog.underlying t=some (.int k))(hc:Tryz.prog.cellsOf t=1)(ho:off < cs.length)
  (h:DataW.trod enc Tryz.prog w base spare held n t ((cs.drop off).take (Tryz.prog.cellsOf t))=some y):∃v,cs[off]?=some (.int k v)/\(Lit.int k v).wf =true:=by
 rw[hc,zcG (List.getElem?_eq_getElem ho)]at h;obtain⟨v,hv,_,hw⟩:=DataW.trod_int ht h;exact⟨v,(List.getElem?_eq_getElem ho).trans (congrArg some (List.cons.inj hv).1),hw⟩
theorem zb0 {t:TypeId}{n:Nat}{off:Nat}{cs:List Value}{y:DataW H×List MemPlace}(ht:Tryz.prog.underlying t=some .string)(hc:Tryz.prog.cellsOf t=1)(ho:off < cs.length)
  (h:DataW.trod enc Tryz.prog w base spare held n t ((cs.drop off).take (Tryz.prog.cellsOf t))=some y):∃s,cs[off]?=some (.string s)/\s.size<=9223372036854775807:=by
 rw[hc,zcG (List.getElem?_eq_getElem ho)]at h;obtain⟨s,hv,_,hz⟩:=DataW.trod_string ht h;exact⟨s,(List.getElem?_eq_getElem ho).trans (congrArg some (List.cons.inj hv).1),by simpa[maxLen]using hz⟩
theorem zaI {t:TypeId}{n:Nat}{off:Nat}{cs:List Value}{y:DataW H×List MemPlace}(hc:Tryz.prog.cellsOf t=1)(ho:off < cs.length)
  (h:DataW.trod enc Tryz.prog w base spare held n t ((cs.drop off).take (Tryz.prog.cellsOf t))=some y):∃v,cs[off]?=some v/\DataW.trod enc Tryz.prog w base spare held n t [v]=some y:=by
 rw[hc,zcG (List.getElem?_eq_getElem ho)]at h;exact⟨_,List.getElem?_eq_getElem ho,h⟩
theorem za7 {a:Int}(h:(Lit.int .i64 a).wf =true):in64 a:=by simpa[in64,Lit.wf,IntKind.min,IntKind.max,IntKind.signed,IntKind.bits]using h
theorem zdT {a:Int}(h:(Lit.int .u8 a).wf =true):in8 a:=by simpa[in8,Lit.wf,IntKind.min,IntKind.max,IntKind.signed,IntKind.bits]using h
theorem c_u8:Tryz.prog.cellsOf 5=1:=by kernel_rfl
theorem zec:Tryz.prog.cellsOf 9=1:=by kernel_rfl
theorem zf4:Tryz.prog.cellsOf 3=1:=by kernel_rfl
abbrev Old (w:World):Nat->Prop:=λb=>b < w.heap.size
theorem zbk {b:Nat}{a:Addr}{len m:Nat}{e:TypeId}{elems:List (DataW H×List MemPlace)}{n:Nat}(hm:0 < m)(hc:Tryz.prog.cellsOf e=m)(Ln:elems.length=len)(FD:∀i,i < len->(w.cells? base (a.add (i*Tryz.prog.cellsOf e)) (Tryz.prog.cellsOf e)).bind (DataW.trod enc Tryz.prog w base spare held n e)=elems[i]?)(hi:0 < len):a.spot=none:=by
 have h1:=FD 0 hi;obtain⟨y,hy⟩:∃y,elems[0]?=some y:=⟨_,List.getElem?_eq_getElem (by omega)⟩;rw[hy]at h1;obtain⟨cs',JH,_⟩:=Option.bind_eq_some_iff.1 h1;rw[hc]at JH;obtain⟨_,Ki,Hd⟩:=World.cells?_some JH;have h2:=(Hd 0 hm).trans (List.getElem?_eq_getElem (by omega));rw[Nat.zero_mul]at h2;exact(zch (a:=a) h2).2
theorem zcU {a:Addr}(GP:a.spot=none)(i j:Nat):(a.add i).add j=⟨a.block,a.off+i+j,none⟩:=by
 unfold Addr.add;by_cases h1:i=0<;>by_cases h2:j=0<;>simp[h1,h2]
 all_goals(cases a;simp_all)
theorem c_Ex:Tryz.prog.cellsOf 41=5:=by kernel_rfl
theorem zif:Tryz.prog.cellsOf 36=1:=by kernel_rfl
theorem by_Ex:Tryz.prog.bytesOf 41=64:=by kernel_rfl
def OEx (w:World)(xs:Exs)(A:Option Addr)(c:Nat):Prop:=SlR (λb o=>ExR w (Old w) False xs b o) xs.len 64 A c/\(szX xs)/\xs.len*64<=140737488351232
def zmb (w:World)(b o:Nat):Prop:=∃(k:Int)(nm:ByteArray)(n:Int)(args:Exs)(at_:Int)(A3:Option Addr)(c3:Nat),w.cell? ⟨b,o,none⟩=some (.int .u8 k)/\w.cell? ⟨b,o+1,none⟩=some (.string nm)/\w.cell? ⟨b,o+2,none⟩=some (.int .i64 n)/\w.cell? ⟨b,o+3,none⟩=some (.slice A3 args.len c3)/\w.cell? ⟨b,o+4,none⟩=some (.int .i64 at_)/\OEx w args A3 c3/\in8 k/\nm.size<=9223372036854775807/\in64 n/\in64 at_
theorem zjQ {b:Nat}:∀(len o:Nat),(∀i,i < len->zmb w b (o+i*5))->∃xs:Exs,xs.len=len/\ExR w (Old w) False xs b o/\szX xs
 |0,_,_=>⟨.nil,rfl,trivial,trivial⟩
 |len+1,o,h=>by
  obtain⟨xs,hl,hx,hz⟩:=zjQ len (o+5) (λi hi=>by have:=h (i+1) (by omega);rwa [show o+(i+1)*5=o+5+i*5 from by omega]at this);obtain⟨k,nm,n,args,at_,A3,c3,h0,h1,h2,h3,h4,s3,r0,r1,r2,r4⟩:=h 0 (by omega);rw[Nat.zero_mul,Nat.add_zero]at h0 h1 h2 h3 h4;exact⟨.cons k nm n args at_ xs,by simp only[Exs.len,hl],⟨⟨(zch h0).1,λz=>z.elim,r0,r2,r4,h0,h1,h2,h4⟩,⟨A3,c3,h3,s3.1⟩,hx⟩,⟨r1,s3.2.1,hz⟩⟩
theorem zmc:∀(fuel:Nat)(v:Value)(x:DataW H×List MemPlace),DataW.trod enc Tryz.prog w base spare held fuel 36 [v]=some x->WtOk Tryz.prog 36 x.1->∃(xs:Exs)(A:Option Addr)(c:Nat),v= .slice A xs.len c/\OEx w xs A c:=by
 intro fuel
 induction fuel using Nat.strongRecOn with
 |_ fuel ih=>
 intro v x h JE;rcases DataW.trod_slice Tryz.underlying36 h with⟨h0,_⟩|⟨a,len,cap,elems,rest,n,hn,F6,hx,_,Fw,Js,Ln,FD,_⟩
 ·have h0:=(List.cons.inj h0).1;exact⟨.nil,none,0,h0,⟨by simp[Exs.len],⟨by decide,by decide⟩,by simp[Exs.len]⟩,trivial,by decide⟩
 ·have F6:=(List.cons.inj F6).1;subst F6;rw[hx]at JE;have JE:=zb9 Tryz.underlying36 JE;have Gp:=JE.1;rw[by_Ex,List.length_map,List.length_map,Ln]at Gp;have key:∀i,i < len->zmb w a.block (a.off+i*5):=by
   intro i hi;have GP:=zbk (b:=0) (by omega) c_Ex Ln FD (by omega);have h1:=FD i hi;obtain⟨y,hy⟩:∃y,elems[i]?=some y:=⟨_,List.getElem?_eq_getElem (by omega)⟩;have MS:=JE.2 y.1 (List.mem_map_of_mem (List.mem_of_getElem? hy));rw[hy]at h1;obtain⟨cs',hc,ht⟩:=Option.bind_eq_some_iff.1 h1;rw[c_Ex]at hc;obtain⟨_,Ki,Hd⟩:=World.cells?_some hc;obtain⟨ys,n',UT,JX,_,Kg,hf⟩:=DataW.trod_struct Tryz.underlying41 ht;rw[JX]at MS;have g:∀j,j < 5->∃z,ys[j]?=some z:=λj hj=>⟨_,List.getElem?_eq_getElem (by rw[Kg];exact hj)⟩;obtain⟨z0,Fe⟩:=g 0 (by omega);obtain⟨f0,e0,w0⟩:=zaV Tryz.underlying5 c_u8 (off:=0) (by omega) ((hf 0 _ rfl).trans Fe);obtain⟨z1,Gh⟩:=g 1 (by omega);obtain⟨f1,e1,w1⟩:=zb0 Tryz.underlying9 zec (off:=1) (by omega) ((hf 1 _ rfl).trans Gh);obtain⟨z2,Gn⟩:=g 2 (by omega);obtain⟨f2,e2,w2⟩:=zaV Tryz.underlying3 zf4 (off:=2) (by omega) ((hf 2 _ rfl).trans Gn);obtain⟨z3,L9⟩:=g 3 (by omega);obtain⟨v3,e3,t3⟩:=zaI zif (off:=3) (by omega) ((hf 3 _ rfl).trans L9);have wt3:WtOk Tryz.prog 36 z3.1:=zaH Tryz.underlying41 MS (j:=3) rfl L9;obtain⟨f3,A3,c3,rfl,s3⟩:=ih n' (by omega) v3 z3 t3 wt3;obtain⟨z4,Tb⟩:=g 4 (by omega);obtain⟨f4,e4,w4⟩:=zaV Tryz.underlying3 zf4 (off:=4) (by omega) ((hf 4 _ rfl).trans Tb);have ad:∀j,(a.add (i*5)).add j=⟨a.block,a.off+i*5+j,none⟩:=zcU GP _;refine⟨f0,f1,f2,f3,f4,A3,c3,?_,?_,?_,?_,?_,s3,zdT w0,w1,za7 w2,za7 w4⟩
   ·have:=(Hd 0 (by omega)).trans e0;rwa [ad]at this
   ·have:=(Hd 1 (by omega)).trans e1;rwa [ad]at this
   ·have:=(Hd 2 (by omega)).trans e2;rwa [ad]at this
   ·have:=(Hd 3 (by omega)).trans e3;rwa [ad]at this
   ·have:=(Hd 4 (by omega)).trans e4;rwa [ad]at this
  obtain⟨xs,hl,hx,hz⟩:=zjQ (w:=w) (b:=a.block) len a.off (λi hi=>key i hi);have RL:len*64<=140737488351232:=by unfold reachBytes at Gp;have:len*64<=(len+rest.length)*64:=Nat.mul_le_mul_right _ (by omega);omega
  refine⟨xs,some a,cap,by rw[hl],⟨by rw[hl];exact Fw,⟨by simpa[maxLen]using Js,by rw[hl];omega⟩,λhp=>⟨a.block,a.off,?_,hx⟩⟩,hz,by rw[hl];exact RL⟩;have:=zbk (b:=0) (by omega) c_Ex Ln FD (by omega);cases a
  simp_all
theorem c_Co:Tryz.prog.cellsOf 160=4:=by kernel_rfl
theorem zlo:Tryz.prog.cellsOf 37=1:=by kernel_rfl
theorem by_Co:Tryz.prog.bytesOf 160=64:=by kernel_rfl
def OCo (w:World)(xs:Cds)(A:Option Addr)(c:Nat):Prop:=SlR (λb o=>CdR w (Old w) False xs b o) xs.len 64 A c/\(szC xs)/\xs.len*64<=140737488351232
def zmd (w:World)(b o:Nat):Prop:=∃(k:Int)(args:Exs)(of_:Cds)(at_:Int)(A1:Option Addr)(c1:Nat)(A2:Option Addr)(c2:Nat),w.cell? ⟨b,o,none⟩=some (.int .u8 k)/\w.cell? ⟨b,o+1,none⟩=some (.slice A1 args.len c1)/\w.cell? ⟨b,o+2,none⟩=some (.slice A2 of_.len c2)/\w.cell? ⟨b,o+3,none⟩=some (.int .i64 at_)/\OEx w args A1 c1/\OCo w of_ A2 c2/\in8 k/\in64 at_
theorem zjR {b:Nat}:∀(len o:Nat),(∀i,i < len->zmd w b (o+i*4))->∃xs:Cds,xs.len=len/\CdR w (Old w) False xs b o/\szC xs
 |0,_,_=>⟨.nil,rfl,trivial,trivial⟩
 |len+1,o,h=>by
  obtain⟨xs,hl,hx,hz⟩:=zjR len (o+4) (λi hi=>by have:=h (i+1) (by omega);rwa [show o+(i+1)*4=o+4+i*4 from by omega]at this);obtain⟨k,args,of_,at_,A1,c1,A2,c2,h0,h1,h2,h3,s1,s2,r0,r3⟩:=h 0 (by omega);rw[Nat.zero_mul,Nat.add_zero]at h0 h1 h2 h3;exact⟨.cons k args of_ at_ xs,by simp only[Cds.len,hl],⟨⟨(zch h0).1,λz=>z.elim,r0,r3,h0,h3⟩,⟨A1,c1,h1,s1.1⟩,⟨A2,c2,h2,s2.1⟩,hx⟩,⟨s1.2.1,s2.2.1,hz⟩⟩
theorem znn:∀(fuel:Nat)(v:Value)(x:DataW H×List MemPlace),DataW.trod enc Tryz.prog w base spare held fuel 37 [v]=some x->WtOk Tryz.prog 37 x.1->∃(xs:Cds)(A:Option Addr)(c:Nat),v= .slice A xs.len c/\OCo w xs A c:=by
 intro fuel
 induction fuel using Nat.strongRecOn with
 |_ fuel ih=>
 intro v x h JE;rcases DataW.trod_slice Tryz.underlying37 h with⟨h0,_⟩|⟨a,len,cap,elems,rest,n,hn,F6,hx,_,Fw,Js,Ln,FD,_⟩
 ·have h0:=(List.cons.inj h0).1;exact⟨.nil,none,0,h0,⟨by simp[Cds.len],⟨by decide,by decide⟩,by simp[Cds.len]⟩,trivial,by decide⟩
 ·have F6:=(List.cons.inj F6).1;subst F6;rw[hx]at JE;have JE:=zb9 Tryz.underlying37 JE;have Gp:=JE.1;rw[by_Co,List.length_map,List.length_map,Ln]at Gp;have key:∀i,i < len->zmd w a.block (a.off+i*4):=by
   intro i hi;have GP:=zbk (b:=0) (by omega) c_Co Ln FD (by omega);have h1:=FD i hi;obtain⟨y,hy⟩:∃y,elems[i]?=some y:=⟨_,List.getElem?_eq_getElem (by omega)⟩;have MS:=JE.2 y.1 (List.mem_map_of_mem (List.mem_of_getElem? hy));rw[hy]at h1;obtain⟨cs',hc,ht⟩:=Option.bind_eq_some_iff.1 h1;rw[c_Co]at hc;obtain⟨_,Ki,Hd⟩:=World.cells?_some hc;obtain⟨ys,n',UT,JX,_,Kg,hf⟩:=DataW.trod_struct Tryz.underlying160 ht;rw[JX]at MS;have g:∀j,j < 4->∃z,ys[j]?=some z:=λj hj=>⟨_,List.getElem?_eq_getElem (by rw[Kg];exact hj)⟩;obtain⟨z0,Fe⟩:=g 0 (by omega);obtain⟨f0,e0,w0⟩:=zaV Tryz.underlying5 c_u8 (off:=0) (by omega) ((hf 0 _ rfl).trans Fe);obtain⟨z1,Gh⟩:=g 1 (by omega);obtain⟨v1,e1,t1⟩:=zaI zif (off:=1) (by omega) ((hf 1 _ rfl).trans Gh);have wt1:WtOk Tryz.prog 36 z1.1:=zaH Tryz.underlying160 MS (j:=1) rfl Gh;obtain⟨f1,A1,c1,rfl,s1⟩:=zmc n' v1 z1 t1 wt1;obtain⟨z2,Gn⟩:=g 2 (by omega);obtain⟨v2,e2,t2⟩:=zaI zlo (off:=2) (by omega) ((hf 2 _ rfl).trans Gn);have wt2:WtOk Tryz.prog 37 z2.1:=zaH Tryz.underlying160 MS (j:=2) rfl Gn;obtain⟨f2,A2,c2,rfl,s2⟩:=ih n' (by omega) v2 z2 t2 wt2;obtain⟨z3,L9⟩:=g 3 (by omega);obtain⟨f3,e3,w3⟩:=zaV Tryz.underlying3 zf4 (off:=3) (by omega) ((hf 3 _ rfl).trans L9);have ad:∀j,(a.add (i*4)).add j=⟨a.block,a.off+i*4+j,none⟩:=zcU GP _;refine⟨f0,f1,f2,f3,A1,c1,A2,c2,?_,?_,?_,?_,s1,s2,zdT w0,za7 w3⟩
   ·have:=(Hd 0 (by omega)).trans e0;rwa [ad]at this
   ·have:=(Hd 1 (by omega)).trans e1;rwa [ad]at this
   ·have:=(Hd 2 (by omega)).trans e2;rwa [ad]at this
   ·have:=(Hd 3 (by omega)).trans e3;rwa [ad]at this
  obtain⟨xs,hl,hx,hz⟩:=zjR (w:=w) (b:=a.block) len a.off (λi hi=>key i hi);have RL:len*64<=140737488351232:=by unfold reachBytes at Gp;have:len*64<=(len+rest.length)*64:=Nat.mul_le_mul_right _ (by omega);omega
  refine⟨xs,some a,cap,by rw[hl],⟨by rw[hl];exact Fw,⟨by simpa[maxLen]using Js,by rw[hl];omega⟩,λhp=>⟨a.block,a.off,?_,hx⟩⟩,hz,by rw[hl];exact RL⟩;have:=zbk (b:=0) (by omega) c_Co Ln FD (by omega);cases a
  simp_all
theorem c_St:Tryz.prog.cellsOf 39=7:=by kernel_rfl
theorem zf5:Tryz.prog.cellsOf 25=1:=by kernel_rfl
theorem by_St:Tryz.prog.bytesOf 39=128:=by kernel_rfl
def OSt (w:World)(xs:Sts)(A:Option Addr)(c:Nat):Prop:=SlR (λb o=>StR w (Old w) False xs b o) xs.len 128 A c/\(szS xs)/\xs.len*128<=140737488351232
def zme (w:World)(b o:Nat):Prop:=∃(k:Int)(nm:ByteArray)(args:Exs)(cond:Cds)(body:Sts)(els:Sts)(at_:Int)(A2:Option Addr)(c2:Nat)(A3:Option Addr)(c3:Nat)(A4:Option Addr)(c4:Nat)(A5:Option Addr)(c5:Nat),w.cell? ⟨b,o,none⟩=some (.int .u8 k)/\w.cell? ⟨b,o+1,none⟩=some (.string nm)/\w.cell? ⟨b,o+2,none⟩=some (.slice A2 args.len c2)/\w.cell? ⟨b,o+3,none⟩=some (.slice A3 cond.len c3)/\w.cell? ⟨b,o+4,none⟩=some (.slice A4 body.len c4)/\w.cell? ⟨b,o+5,none⟩=some (.slice A5 els.len c5)/\w.cell? ⟨b,o+6,none⟩=some (.int .i64 at_)/\OEx w args A2 c2/\OCo w cond A3 c3/\OSt w body A4 c4/\OSt w els A5 c5/\in8 k/\nm.size<=9223372036854775807/\in64 at_
theorem zjS {b:Nat}:∀(len o:Nat),(∀i,i < len->zme w b (o+i*7))->∃xs:Sts,xs.len=len/\StR w (Old w) False xs b o/\szS xs
 |0,_,_=>⟨.nil,rfl,trivial,trivial⟩
 |len+1,o,h=>by
  obtain⟨xs,hl,hx,hz⟩:=zjS len (o+7) (λi hi=>by have:=h (i+1) (by omega);rwa [show o+(i+1)*7=o+7+i*7 from by omega]at this);obtain⟨k,nm,args,cond,body,els,at_,A2,c2,A3,c3,A4,c4,A5,c5,h0,h1,h2,h3,h4,h5,h6,s2,s3,s4,s5,r0,r1,r6⟩:=h 0 (by omega);rw[Nat.zero_mul,Nat.add_zero]at h0 h1 h2 h3 h4 h5 h6;exact⟨.cons k nm args cond body els at_ xs,by simp only[Sts.len,hl],⟨⟨(zch h0).1,λz=>z.elim,r0,r6,h0,h1,h6⟩,⟨A2,c2,h2,s2.1⟩,⟨A3,c3,h3,s3.1⟩,⟨A4,c4,h4,s4.1⟩,⟨A5,c5,h5,s5.1⟩,hx⟩,⟨r1,s2.2.1,s3.2.1,s4.2.1,s5.2.1,hz⟩⟩
theorem zmf:∀(fuel:Nat)(v:Value)(x:DataW H×List MemPlace),DataW.trod enc Tryz.prog w base spare held fuel 25 [v]=some x->WtOk Tryz.prog 25 x.1->∃(xs:Sts)(A:Option Addr)(c:Nat),v= .slice A xs.len c/\OSt w xs A c:=by
 intro fuel
 induction fuel using Nat.strongRecOn with
 |_ fuel ih=>
 intro v x h JE;rcases DataW.trod_slice Tryz.underlying25 h with⟨h0,_⟩|⟨a,len,cap,elems,rest,n,hn,F6,hx,_,Fw,Js,Ln,FD,_⟩
 ·have h0:=(List.cons.inj h0).1;exact⟨.nil,none,0,h0,⟨by simp[Sts.len],⟨by decide,by decide⟩,by simp[Sts.len]⟩,trivial,by decide⟩
 ·have F6:=(List.cons.inj F6).1;subst F6;rw[hx]at JE;have JE:=zb9 Tryz.underlying25 JE;have Gp:=JE.1;rw[by_St,List.length_map,List.length_map,Ln]at Gp;have key:∀i,i < len->zme w a.block (a.off+i*7):=by
   intro i hi;have GP:=zbk (b:=0) (by omega) c_St Ln FD (by omega);have h1:=FD i hi;obtain⟨y,hy⟩:∃y,elems[i]?=some y:=⟨_,List.getElem?_eq_getElem (by omega)⟩;have MS:=JE.2 y.1 (List.mem_map_of_mem (List.mem_of_getElem? hy));rw[hy]at h1;obtain⟨cs',hc,ht⟩:=Option.bind_eq_some_iff.1 h1;rw[c_St]at hc;obtain⟨_,Ki,Hd⟩:=World.cells?_some hc;obtain⟨ys,n',UT,JX,_,Kg,hf⟩:=DataW.trod_struct Tryz.underlying39 ht;rw[JX]at MS;have g:∀j,j < 7->∃z,ys[j]?=some z:=λj hj=>⟨_,List.getElem?_eq_getElem (by rw[Kg];exact hj)⟩;obtain⟨z0,Fe⟩:=g 0 (by omega);obtain⟨f0,e0,w0⟩:=zaV Tryz.underlying5 c_u8 (off:=0) (by omega) ((hf 0 _ rfl).trans Fe);obtain⟨z1,Gh⟩:=g 1 (by omega);obtain⟨f1,e1,w1⟩:=zb0 Tryz.underlying9 zec (off:=1) (by omega) ((hf 1 _ rfl).trans Gh);obtain⟨z2,Gn⟩:=g 2 (by omega);obtain⟨v2,e2,t2⟩:=zaI zif (off:=2) (by omega) ((hf 2 _ rfl).trans Gn);have wt2:WtOk Tryz.prog 36 z2.1:=zaH Tryz.underlying39 MS (j:=2) rfl Gn;obtain⟨f2,A2,c2,rfl,s2⟩:=zmc n' v2 z2 t2 wt2;obtain⟨z3,L9⟩:=g 3 (by omega);obtain⟨v3,e3,t3⟩:=zaI zlo (off:=3) (by omega) ((hf 3 _ rfl).trans L9);have wt3:WtOk Tryz.prog 37 z3.1:=zaH Tryz.underlying39 MS (j:=3) rfl L9;obtain⟨f3,A3,c3,rfl,s3⟩:=znn n' v3 z3 t3 wt3;obtain⟨z4,Tb⟩:=g 4 (by omega);obtain⟨v4,e4,t4⟩:=zaI zf5 (off:=4) (by omega) ((hf 4 _ rfl).trans Tb);have wt4:WtOk Tryz.prog 25 z4.1:=zaH Tryz.underlying39 MS (j:=4) rfl Tb;obtain⟨f4,A4,c4,rfl,s4⟩:=ih n' (by omega) v4 z4 t4 wt4
   obtain⟨z5,NO⟩:=g 5 (by omega);obtain⟨v5,e5,t5⟩:=zaI zf5 (off:=5) (by omega) ((hf 5 _ rfl).trans NO);have wt5:WtOk Tryz.prog 25 z5.1:=zaH Tryz.underlying39 MS (j:=5) rfl NO;obtain⟨f5,A5,c5,rfl,s5⟩:=ih n' (by omega) v5 z5 t5 wt5;obtain⟨z6,TL⟩:=g 6 (by omega);obtain⟨f6,e6,w6⟩:=zaV Tryz.underlying3 zf4 (off:=6) (by omega) ((hf 6 _ rfl).trans TL);have ad:∀j,(a.add (i*7)).add j=⟨a.block,a.off+i*7+j,none⟩:=zcU GP _;refine⟨f0,f1,f2,f3,f4,f5,f6,A2,c2,A3,c3,A4,c4,A5,c5,?_,?_,?_,?_,?_,?_,?_,s2,s3,s4,s5,zdT w0,w1,za7 w6⟩
   ·have:=(Hd 0 (by omega)).trans e0;rwa [ad]at this
   ·have:=(Hd 1 (by omega)).trans e1;rwa [ad]at this
   ·have:=(Hd 2 (by omega)).trans e2;rwa [ad]at this
   ·have:=(Hd 3 (by omega)).trans e3;rwa [ad]at this
   ·have:=(Hd 4 (by omega)).trans e4;rwa [ad]at this
   ·have:=(Hd 5 (by omega)).trans e5;rwa [ad]at this
   ·have:=(Hd 6 (by omega)).trans e6;rwa [ad]at this
  obtain⟨xs,hl,hx,hz⟩:=zjS (w:=w) (b:=a.block) len a.off (λi hi=>key i hi);have RL:len*128<=140737488351232:=by unfold reachBytes at Gp;have:len*128<=(len+rest.length)*128:=Nat.mul_le_mul_right _ (by omega);omega
  refine⟨xs,some a,cap,by rw[hl],⟨by rw[hl];exact Fw,⟨by simpa[maxLen]using Js,by rw[hl];omega⟩,λhp=>⟨a.block,a.off,?_,hx⟩⟩,hz,by rw[hl];exact RL⟩;have:=zbk (b:=0) (by omega) c_St Ln FD (by omega);cases a
  simp_all
theorem c_Va:Tryz.prog.cellsOf 43=2:=by kernel_rfl
theorem zlp:Tryz.prog.cellsOf 22=1:=by kernel_rfl
theorem by_Va:Tryz.prog.bytesOf 43=24:=by kernel_rfl
def OVa (w:World)(xs:List Va)(A:Option Addr)(c:Nat):Prop:=SlR (λb o=>VaR w (Old w) False xs b o) xs.length 24 A c/\(∀x∈xs,x.nm.size<=9223372036854775807)/\xs.length*24<=140737488351232
def zmg (w:World)(b o:Nat):Prop:=∃(nm:ByteArray)(at_:Int),w.cell? ⟨b,o,none⟩=some (.string nm)/\w.cell? ⟨b,o+1,none⟩=some (.int .i64 at_)/\nm.size<=9223372036854775807/\in64 at_
theorem zjT {b:Nat}:∀(len o:Nat),(∀i,i < len->zmg w b (o+i*2))->∃xs:List Va,xs.length=len/\VaR w (Old w) False xs b o/\∀x∈xs,x.nm.size<=9223372036854775807
 |0,_,_=>⟨[],rfl,trivial,λx hx=>by simp at hx⟩
 |len+1,o,h=>by
  obtain⟨xs,hl,hx,hz⟩:=zjT len (o+2) (λi hi=>by have:=h (i+1) (by omega);rwa [show o+(i+1)*2=o+2+i*2 from by omega]at this);obtain⟨nm,at_,h0,h1,r0,r1⟩:=h 0 (by omega);rw[Nat.zero_mul,Nat.add_zero]at h0 h1;exact⟨(⟨nm,at_⟩:Va)::xs,by simp[hl],⟨⟨(zch h0).1,λz=>z.elim,r1,h0,h1⟩,hx⟩,λy hy=>by
   rcases List.mem_cons.1 hy with rfl|hy
   ·exact r0
   ·exact hz y hy⟩
theorem zmh:∀(fuel:Nat)(v:Value)(x:DataW H×List MemPlace),DataW.trod enc Tryz.prog w base spare held fuel 22 [v]=some x->WtOk Tryz.prog 22 x.1->∃(xs:List Va)(A:Option Addr)(c:Nat),v= .slice A xs.length c/\OVa w xs A c:=by
 intro fuel;intro v x h JE;rcases DataW.trod_slice Tryz.underlying22 h with⟨h0,_⟩|⟨a,len,cap,elems,rest,n,hn,F6,hx,_,Fw,Js,Ln,FD,_⟩
 ·have h0:=(List.cons.inj h0).1;exact⟨[],none,0,h0,⟨by simp,⟨by decide,by decide⟩,by simp⟩,λx hx=>by simp at hx,by decide⟩
 ·have F6:=(List.cons.inj F6).1;subst F6;rw[hx]at JE;have JE:=zb9 Tryz.underlying22 JE;have Gp:=JE.1;rw[by_Va,List.length_map,List.length_map,Ln]at Gp;have key:∀i,i < len->zmg w a.block (a.off+i*2):=by
   intro i hi;have GP:=zbk (b:=0) (by omega) c_Va Ln FD (by omega);have h1:=FD i hi;obtain⟨y,hy⟩:∃y,elems[i]?=some y:=⟨_,List.getElem?_eq_getElem (by omega)⟩;have MS:=JE.2 y.1 (List.mem_map_of_mem (List.mem_of_getElem? hy));rw[hy]at h1;obtain⟨cs',hc,ht⟩:=Option.bind_eq_some_iff.1 h1;rw[c_Va]at hc;obtain⟨_,Ki,Hd⟩:=World.cells?_some hc;obtain⟨ys,n',UT,JX,_,Kg,hf⟩:=DataW.trod_struct Tryz.underlying43 ht;rw[JX]at MS;have g:∀j,j < 2->∃z,ys[j]?=some z:=λj hj=>⟨_,List.getElem?_eq_getElem (by rw[Kg];exact hj)⟩;obtain⟨z0,Fe⟩:=g 0 (by omega);obtain⟨f0,e0,w0⟩:=zb0 Tryz.underlying9 zec (off:=0) (by omega) ((hf 0 _ rfl).trans Fe);obtain⟨z1,Gh⟩:=g 1 (by omega);obtain⟨f1,e1,w1⟩:=zaV Tryz.underlying3 zf4 (off:=1) (by omega) ((hf 1 _ rfl).trans Gh);have ad:∀j,(a.add (i*2)).add j=⟨a.block,a.off+i*2+j,none⟩:=zcU GP _;refine⟨f0,f1,?_,?_,w0,za7 w1⟩
   ·have:=(Hd 0 (by omega)).trans e0;rwa [ad]at this
   ·have:=(Hd 1 (by omega)).trans e1;rwa [ad]at this
  obtain⟨xs,hl,hx,hz⟩:=zjT (w:=w) (b:=a.block) len a.off (λi hi=>key i hi);have RL:len*24<=140737488351232:=by unfold reachBytes at Gp;have:len*24<=(len+rest.length)*24:=Nat.mul_le_mul_right _ (by omega);omega
  refine⟨xs,some a,cap,by rw[hl],⟨by rw[hl];exact Fw,⟨by simpa[maxLen]using Js,by rw[hl];omega⟩,λhp=>⟨a.block,a.off,?_,hx⟩⟩,hz,by rw[hl];exact RL⟩;have:=zbk (b:=0) (by omega) c_Va Ln FD (by omega);cases a
  simp_all
theorem c_Ar:Tryz.prog.cellsOf 66=3:=by kernel_rfl
theorem zno:Tryz.prog.cellsOf 23=1:=by kernel_rfl
theorem by_Ar:Tryz.prog.bytesOf 66=32:=by kernel_rfl
def OAr (w:World)(xs:List Arr)(A:Option Addr)(c:Nat):Prop:=SlR (λb o=>ArR w (Old w) False xs b o) xs.length 32 A c/\(∀x∈xs,x.nm.size<=9223372036854775807)/\xs.length*32<=140737488351232
def zmi (w:World)(b o:Nat):Prop:=∃(nm:ByteArray)(size:Int)(at_:Int),w.cell? ⟨b,o,none⟩=some (.string nm)/\w.cell? ⟨b,o+1,none⟩=some (.int .i64 size)/\w.cell? ⟨b,o+2,none⟩=some (.int .i64 at_)/\nm.size<=9223372036854775807/\in64 size/\in64 at_
theorem zjU {b:Nat}:∀(len o:Nat),(∀i,i < len->zmi w b (o+i*3))->∃xs:List Arr,xs.length=len/\ArR w (Old w) False xs b o/\∀x∈xs,x.nm.size<=9223372036854775807
 |0,_,_=>⟨[],rfl,trivial,λx hx=>by simp at hx⟩
 |len+1,o,h=>by
  obtain⟨xs,hl,hx,hz⟩:=zjU len (o+3) (λi hi=>by have:=h (i+1) (by omega);rwa [show o+(i+1)*3=o+3+i*3 from by omega]at this);obtain⟨nm,size,at_,h0,h1,h2,r0,r1,r2⟩:=h 0 (by omega);rw[Nat.zero_mul,Nat.add_zero]at h0 h1 h2;exact⟨(⟨nm,size,at_⟩:Arr)::xs,by simp[hl],⟨⟨(zch h0).1,λz=>z.elim,r1,r2,h0,h1,h2⟩,hx⟩,λy hy=>by
   rcases List.mem_cons.1 hy with rfl|hy
   ·exact r0
   ·exact hz y hy⟩
theorem znp:∀(fuel:Nat)(v:Value)(x:DataW H×List MemPlace),DataW.trod enc Tryz.prog w base spare held fuel 23 [v]=some x->WtOk Tryz.prog 23 x.1->∃(xs:List Arr)(A:Option Addr)(c:Nat),v= .slice A xs.length c/\OAr w xs A c:=by
 intro fuel;intro v x h JE;rcases DataW.trod_slice Tryz.underlying23 h with⟨h0,_⟩|⟨a,len,cap,elems,rest,n,hn,F6,hx,_,Fw,Js,Ln,FD,_⟩
 ·have h0:=(List.cons.inj h0).1;exact⟨[],none,0,h0,⟨by simp,⟨by decide,by decide⟩,by simp⟩,λx hx=>by simp at hx,by decide⟩
 ·have F6:=(List.cons.inj F6).1;subst F6;rw[hx]at JE;have JE:=zb9 Tryz.underlying23 JE;have Gp:=JE.1;rw[by_Ar,List.length_map,List.length_map,Ln]at Gp;have key:∀i,i < len->zmi w a.block (a.off+i*3):=by
   intro i hi;have GP:=zbk (b:=0) (by omega) c_Ar Ln FD (by omega);have h1:=FD i hi;obtain⟨y,hy⟩:∃y,elems[i]?=some y:=⟨_,List.getElem?_eq_getElem (by omega)⟩;have MS:=JE.2 y.1 (List.mem_map_of_mem (List.mem_of_getElem? hy));rw[hy]at h1;obtain⟨cs',hc,ht⟩:=Option.bind_eq_some_iff.1 h1;rw[c_Ar]at hc;obtain⟨_,Ki,Hd⟩:=World.cells?_some hc;obtain⟨ys,n',UT,JX,_,Kg,hf⟩:=DataW.trod_struct Tryz.underlying66 ht;rw[JX]at MS;have g:∀j,j < 3->∃z,ys[j]?=some z:=λj hj=>⟨_,List.getElem?_eq_getElem (by rw[Kg];exact hj)⟩;obtain⟨z0,Fe⟩:=g 0 (by omega);obtain⟨f0,e0,w0⟩:=zb0 Tryz.underlying9 zec (off:=0) (by omega) ((hf 0 _ rfl).trans Fe);obtain⟨z1,Gh⟩:=g 1 (by omega);obtain⟨f1,e1,w1⟩:=zaV Tryz.underlying3 zf4 (off:=1) (by omega) ((hf 1 _ rfl).trans Gh);obtain⟨z2,Gn⟩:=g 2 (by omega);obtain⟨f2,e2,w2⟩:=zaV Tryz.underlying3 zf4 (off:=2) (by omega) ((hf 2 _ rfl).trans Gn);have ad:∀j,(a.add (i*3)).add j=⟨a.block,a.off+i*3+j,none⟩:=zcU GP _;refine⟨f0,f1,f2,?_,?_,?_,w0,za7 w1,za7 w2⟩
   ·have:=(Hd 0 (by omega)).trans e0;rwa [ad]at this
   ·have:=(Hd 1 (by omega)).trans e1;rwa [ad]at this
   ·have:=(Hd 2 (by omega)).trans e2;rwa [ad]at this
  obtain⟨xs,hl,hx,hz⟩:=zjU (w:=w) (b:=a.block) len a.off (λi hi=>key i hi);have RL:len*32<=140737488351232:=by unfold reachBytes at Gp;have:len*32<=(len+rest.length)*32:=Nat.mul_le_mul_right _ (by omega);omega
  refine⟨xs,some a,cap,by rw[hl],⟨by rw[hl];exact Fw,⟨by simpa[maxLen]using Js,by rw[hl];omega⟩,λhp=>⟨a.block,a.off,?_,hx⟩⟩,hz,by rw[hl];exact RL⟩;have:=zbk (b:=0) (by omega) c_Ar Ln FD (by omega);cases a
  simp_all
theorem c_Pr:Tryz.prog.cellsOf 68=4:=by kernel_rfl
theorem znq:Tryz.prog.cellsOf 24=1:=by kernel_rfl
theorem by_Pr:Tryz.prog.bytesOf 68=72:=by kernel_rfl
def OPr (w:World)(xs:List Prc)(A:Option Addr)(c:Nat):Prop:=SlR (λb o=>PrR w (Old w) False xs b o) xs.length 72 A c/\(∀x∈xs,x.nm.size<=9223372036854775807/\(∀y∈x.params,y.nm.size<=9223372036854775807)/\szS x.body)/\xs.length*72<=140737488351232
def zmj (w:World)(b o:Nat):Prop:=∃(nm:ByteArray)(params:List Va)(body:Sts)(at_:Int)(A1:Option Addr)(c1:Nat)(A2:Option Addr)(c2:Nat),w.cell? ⟨b,o,none⟩=some (.string nm)/\w.cell? ⟨b,o+1,none⟩=some (.slice A1 params.length c1)/\w.cell? ⟨b,o+2,none⟩=some (.slice A2 body.len c2)/\w.cell? ⟨b,o+3,none⟩=some (.int .i64 at_)/\OVa w params A1 c1/\OSt w body A2 c2/\nm.size<=9223372036854775807/\in64 at_
theorem zjV {b:Nat}:∀(len o:Nat),(∀i,i < len->zmj w b (o+i*4))->∃xs:List Prc,xs.length=len/\PrR w (Old w) False xs b o/\∀x∈xs,x.nm.size<=9223372036854775807/\(∀y∈x.params,y.nm.size<=9223372036854775807)/\szS x.body
 |0,_,_=>⟨[],rfl,trivial,λx hx=>by simp at hx⟩
 |len+1,o,h=>by
  obtain⟨xs,hl,hx,hz⟩:=zjV len (o+4) (λi hi=>by have:=h (i+1) (by omega);rwa [show o+(i+1)*4=o+4+i*4 from by omega]at this);obtain⟨nm,params,body,at_,A1,c1,A2,c2,h0,h1,h2,h3,s1,s2,r0,r3⟩:=h 0 (by omega);rw[Nat.zero_mul,Nat.add_zero]at h0 h1 h2 h3;exact⟨(⟨nm,params,body,at_⟩:Prc)::xs,by simp[hl],⟨⟨(zch h0).1,λz=>z.elim,r3,h0,h3⟩,⟨A1,c1,h1,s1.1⟩,⟨A2,c2,h2,s2.1⟩,hx⟩,λy hy=>by
   rcases List.mem_cons.1 hy with rfl|hy
   ·exact⟨r0,s1.2.1,s2.2.1⟩
   ·exact hz y hy⟩
theorem znr:∀(fuel:Nat)(v:Value)(x:DataW H×List MemPlace),DataW.trod enc Tryz.prog w base spare held fuel 24 [v]=some x->WtOk Tryz.prog 24 x.1->∃(xs:List Prc)(A:Option Addr)(c:Nat),v= .slice A xs.length c/\OPr w xs A c:=by
 intro fuel;intro v x h JE;rcases DataW.trod_slice Tryz.underlying24 h with⟨h0,_⟩|⟨a,len,cap,elems,rest,n,hn,F6,hx,_,Fw,Js,Ln,FD,_⟩
 ·have h0:=(List.cons.inj h0).1;exact⟨[],none,0,h0,⟨by simp,⟨by decide,by decide⟩,by simp⟩,λx hx=>by simp at hx,by decide⟩
 ·have F6:=(List.cons.inj F6).1;subst F6;rw[hx]at JE;have JE:=zb9 Tryz.underlying24 JE;have Gp:=JE.1;rw[by_Pr,List.length_map,List.length_map,Ln]at Gp;have key:∀i,i < len->zmj w a.block (a.off+i*4):=by
   intro i hi;have GP:=zbk (b:=0) (by omega) c_Pr Ln FD (by omega);have h1:=FD i hi;obtain⟨y,hy⟩:∃y,elems[i]?=some y:=⟨_,List.getElem?_eq_getElem (by omega)⟩;have MS:=JE.2 y.1 (List.mem_map_of_mem (List.mem_of_getElem? hy));rw[hy]at h1;obtain⟨cs',hc,ht⟩:=Option.bind_eq_some_iff.1 h1;rw[c_Pr]at hc;obtain⟨_,Ki,Hd⟩:=World.cells?_some hc;obtain⟨ys,n',UT,JX,_,Kg,hf⟩:=DataW.trod_struct Tryz.underlying68 ht;rw[JX]at MS;have g:∀j,j < 4->∃z,ys[j]?=some z:=λj hj=>⟨_,List.getElem?_eq_getElem (by rw[Kg];exact hj)⟩;obtain⟨z0,Fe⟩:=g 0 (by omega);obtain⟨f0,e0,w0⟩:=zb0 Tryz.underlying9 zec (off:=0) (by omega) ((hf 0 _ rfl).trans Fe);obtain⟨z1,Gh⟩:=g 1 (by omega);obtain⟨v1,e1,t1⟩:=zaI zlp (off:=1) (by omega) ((hf 1 _ rfl).trans Gh);have wt1:WtOk Tryz.prog 22 z1.1:=zaH Tryz.underlying68 MS (j:=1) rfl Gh;obtain⟨f1,A1,c1,rfl,s1⟩:=zmh n' v1 z1 t1 wt1;obtain⟨z2,Gn⟩:=g 2 (by omega);obtain⟨v2,e2,t2⟩:=zaI zf5 (off:=2) (by omega) ((hf 2 _ rfl).trans Gn);have wt2:WtOk Tryz.prog 25 z2.1:=zaH Tryz.underlying68 MS (j:=2) rfl Gn;obtain⟨f2,A2,c2,rfl,s2⟩:=zmf n' v2 z2 t2 wt2;obtain⟨z3,L9⟩:=g 3 (by omega);obtain⟨f3,e3,w3⟩:=zaV Tryz.underlying3 zf4 (off:=3) (by omega) ((hf 3 _ rfl).trans L9);have ad:∀j,(a.add (i*4)).add j=⟨a.block,a.off+i*4+j,none⟩:=zcU GP _;refine⟨f0,f1,f2,f3,A1,c1,A2,c2,?_,?_,?_,?_,s1,s2,w0,za7 w3⟩
   ·have:=(Hd 0 (by omega)).trans e0;rwa [ad]at this
   ·have:=(Hd 1 (by omega)).trans e1;rwa [ad]at this
   ·have:=(Hd 2 (by omega)).trans e2;rwa [ad]at this
   ·have:=(Hd 3 (by omega)).trans e3;rwa [ad]at this
  obtain⟨xs,hl,hx,hz⟩:=zjV (w:=w) (b:=a.block) len a.off (λi hi=>key i hi);have RL:len*72<=140737488351232:=by unfold reachBytes at Gp;have:len*72<=(len+rest.length)*72:=Nat.mul_le_mul_right _ (by omega);omega
  refine⟨xs,some a,cap,by rw[hl],⟨by rw[hl];exact Fw,⟨by simpa[maxLen]using Js,by rw[hl];omega⟩,λhp=>⟨a.block,a.off,?_,hx⟩⟩,hz,by rw[hl];exact RL⟩;have:=zbk (b:=0) (by omega) c_Pr Ln FD (by omega);cases a
  simp_all
structure BdT (t:Tre):Prop where
 vars:t.vars.length*24<=140737488351232
 arrays:t.arrays.length*32<=140737488351232
 procs:t.procs.length*72<=140737488351232
 main:t.main.len*128<=140737488351232
theorem zjW {r:Reach}{b0:Nat}{v:Value}{d:DataW H}{p:List MemPlace}(hv:Value.okWide Tryz.prog w r b0 27 v)(h:DataW.Trod enc Tryz.prog w base spare held 27 v d p)(JE:WtOk Tryz.prog 27 d):
  ∃(t:Tre)(Av Aa Ap Am:Option Addr)(cv ca cp cm:Nat),v=trV t Av Aa Ap Am cv ca cp cm/\TrR w (Old w) False t Av Aa Ap Am cv ca cp cm/\SzT t/\BdT t:=by
 have hs:=Tryz.underlying27;obtain⟨cs,rfl,Ht⟩:=okWide_struct hs hv;obtain⟨l⟩:=cs
 match l,Ht.trans (show Tryz.prog.cellsOf 27=4 by kernel_rfl)with
 | [c0,c1,c2,c3],_=>
  obtain⟨fuel,hf⟩:=h;obtain⟨xs,n,_,hx,_,hlen,hg⟩:=DataW.trod_struct hs hf
  match xs,hlen with
  | [y0,y1,y2,y3],_=>
   have hd:=(Prod.mk.inj hx).1;rw[hd]at JE;obtain⟨v0,e0,t0⟩:=zaI (cs:= [c0,c1,c2,c3]) zlp (off:=0) (by simp) (hg 0 _ rfl);obtain⟨v1,e1,t1⟩:=zaI (cs:= [c0,c1,c2,c3]) zno (off:=1) (by simp) (hg 1 _ rfl);obtain⟨v2,e2,t2⟩:=zaI (cs:= [c0,c1,c2,c3]) znq (off:=2) (by simp) (hg 2 _ rfl);obtain⟨v3,e3,t3⟩:=zaI (cs:= [c0,c1,c2,c3]) zf5 (off:=3) (by simp) (hg 3 _ rfl);simp only[List.getElem?_cons_zero,List.getElem?_cons_succ,Option.some.injEq]at e0 e1 e2 e3;subst e0 e1 e2 e3;obtain⟨vs,Av,cv,rfl,sv⟩:=zmh n c0 y0 t0 (zaH hs JE (j:=0) rfl rfl);obtain⟨xs,Aa,ca,rfl,sa⟩:=znp n c1 y1 t1 (zaH hs JE (j:=1) rfl rfl);obtain⟨ps,Ap,cp,rfl,sp⟩:=znr n c2 y2 t2 (zaH hs JE (j:=2) rfl rfl);obtain⟨ss,Am,cm,rfl,sm⟩:=zmf n c3 y3 t3 (zaH hs JE (j:=3) rfl rfl);exact⟨⟨vs,xs,ps,ss⟩,Av,Aa,Ap,Am,cv,ca,cp,cm,rfl,⟨sv.1,sa.1,sp.1,sm.1⟩,⟨sv.2.1,sa.2.1,sp.2.1,sm.2.1⟩,⟨sv.2.2,sa.2.2,sp.2.2,sm.2.2⟩⟩
end
def mX:Exs->Nat
 | .nil =>0
 | .cons _ nm _ args _ r=>1+nm.size+mX args+mX r
def mC:Cds->Nat
 | .nil =>0
 | .cons _ args of_ _ r=>1+mX args+mC of_+mC r
def mS:Sts->Nat
 | .nil =>0
 | .cons _ nm args cond body els _ r=>1+nm.size+mX args+mC cond+mS body+mS els+mS r
def mV:List Va->Nat
 | []=>0
 |v::r=>1+v.nm.size+mV r
def mA:List Arr->Nat
 | []=>0
 |v::r=>1+v.nm.size+mA r
def mP:List Prc->Nat
 | []=>0
 |p::r=>1+p.nm.size+mV p.params+mS p.body+mP r
def mT (t:Tre):Nat:=mV t.vars+mA t.arrays+mP t.procs+mS t.main
theorem zbq (b o k:Nat):(⟨b,o,none⟩:Addr).add k=⟨b,o+k,none⟩:=by
 unfold Addr.add;split<;>simp_all
section
variable {H:Type} {enc:TypeId×Value->H} {w:World} {base:Nat} {spare:Nat->Bool} {held:Bool}
theorem zf6 {t:TypeId}{n off:Nat}{cs:List Value}{y:DataW H×List MemPlace}{s:ByteArray}(ht:Tryz.prog.underlying t=some .string)(hc:Tryz.prog.cellsOf t=1)(hs:cs[off]?=some (.string s))
  (h:DataW.trod enc Tryz.prog w base spare held n t ((cs.drop off).take (Tryz.prog.cellsOf t))=some y):Rows.uptoBulk y.1=s.size+1:=by
 rw[hc,zcG hs]at h;obtain⟨s',hv,hx,_⟩:=DataW.trod_string ht h;cases hv;rw[hx];simp only[Rows.uptoBulk,Array.length_toList];rfl
theorem bk_sl {t e:TypeId}{m len c M sz:Nat}{A:Option Addr}{R:Nat->Nat->Prop}(ht:Tryz.prog.underlying t=some (.slice e))(hc:Tryz.prog.cellsOf e=m)(h:SlR R len sz A c)(h0:len=0->M=0)
  (ih:∀b o,R b o->∀(elems:List (DataW H×List MemPlace))(n:Nat),elems.length=len->(∀i,i < len->(w.cells? base ⟨b,o+i*m,none⟩ m).bind (DataW.trod enc Tryz.prog w base spare held n e)=elems[i]?)->M<=Rows.uptoBulkAll (elems.map (·.1)))
  {fuel:Nat} {z:DataW H×List MemPlace} (hz:DataW.trod enc Tryz.prog w base spare held fuel t [.slice A len c]=some z):M<=Rows.uptoBulk z.1:=by
 rcases DataW.trod_slice ht hz with⟨h1,_⟩|⟨a,len',cap,elems,rest,n,_,F6,hx,_,_,_,Ln,FD,_⟩
 ·have h1:=(List.cons.inj h1).1;injection h1 with _ h2 _;rw[h0 h2];exact Nat.zero_le _
 ·have F6:=(List.cons.inj F6).1;injection F6 with e1 e2 _;subst e1 e2;by_cases hl:len=0
  ·rw[h0 hl];exact Nat.zero_le _
  ·obtain⟨b,o,ea,hr⟩:=h.2.2 (by omega);have ea:=Option.some.inj ea;subst ea;have h2:=ih b o hr elems n Ln λi hi=>by
    have h3:=FD i hi;rw[hc,zbq]at h3;exact h3
   rw[hx];simp only[Rows.uptoBulk];omega
theorem zbI {t e:TypeId}{m len c M sz n off:Nat}{A:Option Addr}{R:Nat->Nat->Prop}{cs:List Value}(ht:Tryz.prog.underlying t=some (.slice e))(UE:Tryz.prog.cellsOf t=1)(hc:Tryz.prog.cellsOf e=m)(h:SlR R len sz A c)(h0:len=0->M=0)
  (ih:∀b o,R b o->∀(elems:List (DataW H×List MemPlace))(n:Nat),elems.length=len->(∀i,i < len->(w.cells? base ⟨b,o+i*m,none⟩ m).bind (DataW.trod enc Tryz.prog w base spare held n e)=elems[i]?)->M<=Rows.uptoBulkAll (elems.map (·.1)))
  {z:DataW H×List MemPlace} (hs:cs[off]?=some (.slice A len c)) (hz:DataW.trod enc Tryz.prog w base spare held n t ((cs.drop off).take (Tryz.prog.cellsOf t))=some z):M<=Rows.uptoBulk z.1:=by
 rw[UE,zcG hs]at hz;exact bk_sl ht hc h h0 ih hz
theorem mX_0:∀ {xs:Exs},xs.len=0->mX xs=0
 | .nil,_=>rfl
 | .cons _ _ _ _ _ _,h=>by simp[Exs.len]at h
theorem mC_0:∀ {xs:Cds},xs.len=0->mC xs=0
 | .nil,_=>rfl
 | .cons _ _ _ _ _,h=>by simp[Cds.len]at h
theorem mS_0:∀ {xs:Sts},xs.len=0->mS xs=0
 | .nil,_=>rfl
 | .cons _ _ _ _ _ _ _ _,h=>by simp[Sts.len]at h
theorem mV_0:∀ {xs:List Va},xs.length=0->mV xs=0
 | [],_=>rfl
theorem mA_0:∀ {xs:List Arr},xs.length=0->mA xs=0
 | [],_=>rfl
theorem mP_0:∀ {xs:List Prc},xs.length=0->mP xs=0
 | [],_=>rfl
theorem bkEx {S:Nat->Prop}{Z:Prop}:∀(xs:Exs)(b o:Nat),ExR w S Z xs b o->∀(elems:List (DataW H×List MemPlace))(n:Nat),elems.length=xs.len->(∀i,i < xs.len->(w.cells? base ⟨b,o+i*5,none⟩ 5).bind (DataW.trod enc Tryz.prog w base spare held n 41)=elems[i]?)->mX xs<=Rows.uptoBulkAll (elems.map (·.1))
 | .nil,_,_,_,_,_,_,_=>Nat.zero_le _
 | .cons k nm n1 args at_ r,b,o,⟨⟨_,_,_,_,_,h0,h1,h2,h4⟩,⟨A3,c3,h3,s3⟩,hr⟩,elems,n,hl,hg=>by
  cases elems with
  |nil=>simp[Exs.len]at hl
  |cons y el=>
   have NR:=bkEx r b (o+5) hr el n (by simpa[Exs.len]using hl) (λi hi=>by
    have:=hg (i+1) (by simp only[Exs.len];omega)
    rwa [show o+(i+1)*5=o+5+i*5 from by omega,List.getElem?_cons_succ]at this)
   have g0:=hg 0 (by simp[Exs.len]);simp only[Nat.zero_mul,Nat.add_zero,List.getElem?_cons_zero]at g0;obtain⟨cs,hc,ht⟩:=Option.bind_eq_some_iff.1 g0;obtain⟨_,Ki,Hd⟩:=World.cells?_some hc;obtain⟨ys,n',_,hy,_,Kg,hf⟩:=DataW.trod_struct Tryz.underlying41 ht;have a1:=(Hd 1 (by omega)).symm;rw[zbq]at a1;have a1:=a1.trans h1;have a3:=(Hd 3 (by omega)).symm;rw[zbq]at a3;have a3:=a3.trans h3
   match ys,Kg,hy,hf with
   | [z0,z1,z2,z3,z4],_,hy,hf=>
    have e1:=zf6 (off:=1) Tryz.underlying9 zec a1 (hf 1 _ rfl);have e3:=zbI (off:=3) (M:=mX args) Tryz.underlying36 zif c_Ex s3 mX_0 (λb o h=>bkEx args b o h) a3 (hf 3 _ rfl);simp only[mX,List.map_cons,List.map_nil,Rows.uptoBulkAll,hy,Rows.uptoBulk];omega
theorem bkCo {S:Nat->Prop}{Z:Prop}:∀(xs:Cds)(b o:Nat),CdR w S Z xs b o->∀(elems:List (DataW H×List MemPlace))(n:Nat),elems.length=xs.len->(∀i,i < xs.len->(w.cells? base ⟨b,o+i*4,none⟩ 4).bind (DataW.trod enc Tryz.prog w base spare held n 160)=elems[i]?)->mC xs<=Rows.uptoBulkAll (elems.map (·.1))
 | .nil,_,_,_,_,_,_,_=>Nat.zero_le _
 | .cons k args of_ at_ r,b,o,⟨⟨_,_,_,_,h0,h3⟩,⟨A1,c1,h1,s1⟩,⟨A2,c2,h2,s2⟩,hr⟩,elems,n,hl,hg=>by
  cases elems with
  |nil=>simp[Cds.len]at hl
  |cons y el=>
   have NR:=bkCo r b (o+4) hr el n (by simpa[Cds.len]using hl) (λi hi=>by
    have:=hg (i+1) (by simp only[Cds.len];omega)
    rwa [show o+(i+1)*4=o+4+i*4 from by omega,List.getElem?_cons_succ]at this)
   have g0:=hg 0 (by simp[Cds.len]);simp only[Nat.zero_mul,Nat.add_zero,List.getElem?_cons_zero]at g0;obtain⟨cs,hc,ht⟩:=Option.bind_eq_some_iff.1 g0;obtain⟨_,Ki,Hd⟩:=World.cells?_some hc;obtain⟨ys,n',_,hy,_,Kg,hf⟩:=DataW.trod_struct Tryz.underlying160 ht;have a1:=(Hd 1 (by omega)).symm;rw[zbq]at a1;have a1:=a1.trans h1;have a2:=(Hd 2 (by omega)).symm;rw[zbq]at a2;have a2:=a2.trans h2
   match ys,Kg,hy,hf with
   | [z0,z1,z2,z3],_,hy,hf=>
    have e1:=zbI (off:=1) (M:=mX args) Tryz.underlying36 zif c_Ex s1 mX_0 (λb o h=>bkEx args b o h) a1 (hf 1 _ rfl);have e2:=zbI (off:=2) (M:=mC of_) Tryz.underlying37 zlo c_Co s2 mC_0 (λb o h=>bkCo of_ b o h) a2 (hf 2 _ rfl);simp only[mC,List.map_cons,List.map_nil,Rows.uptoBulkAll,hy,Rows.uptoBulk];omega
theorem bkSt {S:Nat->Prop}{Z:Prop}:∀(xs:Sts)(b o:Nat),StR w S Z xs b o->∀(elems:List (DataW H×List MemPlace))(n:Nat),elems.length=xs.len->(∀i,i < xs.len->(w.cells? base ⟨b,o+i*7,none⟩ 7).bind (DataW.trod enc Tryz.prog w base spare held n 39)=elems[i]?)->mS xs<=Rows.uptoBulkAll (elems.map (·.1))
 | .nil,_,_,_,_,_,_,_=>Nat.zero_le _
 | .cons k nm args cond body els at_ r,b,o,⟨⟨_,_,_,_,h0,h1,h6⟩,⟨A2,c2,h2,s2⟩,⟨A3,c3,h3,s3⟩,⟨A4,c4,h4,s4⟩,⟨A5,c5,h5,s5⟩,hr⟩,elems,n,hl,hg=>by
  cases elems with
  |nil=>simp[Sts.len]at hl
  |cons y el=>
   have NR:=bkSt r b (o+7) hr el n (by simpa[Sts.len]using hl) (λi hi=>by
    have:=hg (i+1) (by simp only[Sts.len];omega)
    rwa [show o+(i+1)*7=o+7+i*7 from by omega,List.getElem?_cons_succ]at this)
   have g0:=hg 0 (by simp[Sts.len]);simp only[Nat.zero_mul,Nat.add_zero,List.getElem?_cons_zero]at g0;obtain⟨cs,hc,ht⟩:=Option.bind_eq_some_iff.1 g0;obtain⟨_,Ki,Hd⟩:=World.cells?_some hc;obtain⟨ys,n',_,hy,_,Kg,hf⟩:=DataW.trod_struct Tryz.underlying39 ht;have a1:=(Hd 1 (by omega)).symm;rw[zbq]at a1;have a1:=a1.trans h1;have a2:=(Hd 2 (by omega)).symm;rw[zbq]at a2;have a2:=a2.trans h2;have a3:=(Hd 3 (by omega)).symm;rw[zbq]at a3;have a3:=a3.trans h3;have a4:=(Hd 4 (by omega)).symm;rw[zbq]at a4;have a4:=a4.trans h4;have a5:=(Hd 5 (by omega)).symm;rw[zbq]at a5;have a5:=a5.trans h5
   match ys,Kg,hy,hf with
   | [z0,z1,z2,z3,z4,z5,z6],_,hy,hf=>
    have e1:=zf6 (off:=1) Tryz.underlying9 zec a1 (hf 1 _ rfl);have e2:=zbI (off:=2) (M:=mX args) Tryz.underlying36 zif c_Ex s2 mX_0 (λb o h=>bkEx args b o h) a2 (hf 2 _ rfl);have e3:=zbI (off:=3) (M:=mC cond) Tryz.underlying37 zlo c_Co s3 mC_0 (λb o h=>bkCo cond b o h) a3 (hf 3 _ rfl);have e4:=zbI (off:=4) (M:=mS body) Tryz.underlying25 zf5 c_St s4 mS_0 (λb o h=>bkSt body b o h) a4 (hf 4 _ rfl);have e5:=zbI (off:=5) (M:=mS els) Tryz.underlying25 zf5 c_St s5 mS_0 (λb o h=>bkSt els b o h) a5 (hf 5 _ rfl);simp only[mS,List.map_cons,List.map_nil,Rows.uptoBulkAll,hy,Rows.uptoBulk];omega
theorem bkVa {S:Nat->Prop}{Z:Prop}:∀(xs:List Va)(b o:Nat),VaR w S Z xs b o->∀(elems:List (DataW H×List MemPlace))(n:Nat),elems.length=xs.length->(∀i,i < xs.length->(w.cells? base ⟨b,o+i*2,none⟩ 2).bind (DataW.trod enc Tryz.prog w base spare held n 43)=elems[i]?)->mV xs<=Rows.uptoBulkAll (elems.map (·.1))
 | [],_,_,_,_,_,_,_=>Nat.zero_le _
 |v::r,b,o,⟨⟨_,_,_,h0,h1⟩,hr⟩,elems,n,hl,hg=>by
  cases elems with
  |nil=>simp[List.length]at hl
  |cons y el=>
   have NR:=bkVa r b (o+2) hr el n (by simpa[List.length]using hl) (λi hi=>by
    have:=hg (i+1) (by simp only[List.length];omega)
    rwa [show o+(i+1)*2=o+2+i*2 from by omega,List.getElem?_cons_succ]at this)
   have g0:=hg 0 (by simp[List.length]);simp only[Nat.zero_mul,Nat.add_zero,List.getElem?_cons_zero]at g0;obtain⟨cs,hc,ht⟩:=Option.bind_eq_some_iff.1 g0;obtain⟨_,Ki,Hd⟩:=World.cells?_some hc;obtain⟨ys,n',_,hy,_,Kg,hf⟩:=DataW.trod_struct Tryz.underlying43 ht;have a0:=(Hd 0 (by omega)).symm;rw[zbq]at a0;have a0:=a0.trans h0
   match ys,Kg,hy,hf with
   | [z0,z1],_,hy,hf=>
    have e0:=zf6 (off:=0) Tryz.underlying9 zec a0 (hf 0 _ rfl);simp only[mV,List.map_cons,List.map_nil,Rows.uptoBulkAll,hy,Rows.uptoBulk];omega
theorem bkAr {S:Nat->Prop}{Z:Prop}:∀(xs:List Arr)(b o:Nat),ArR w S Z xs b o->∀(elems:List (DataW H×List MemPlace))(n:Nat),elems.length=xs.length->(∀i,i < xs.length->(w.cells? base ⟨b,o+i*3,none⟩ 3).bind (DataW.trod enc Tryz.prog w base spare held n 66)=elems[i]?)->mA xs<=Rows.uptoBulkAll (elems.map (·.1))
 | [],_,_,_,_,_,_,_=>Nat.zero_le _
 |v::r,b,o,⟨⟨_,_,_,_,h0,h1,h2⟩,hr⟩,elems,n,hl,hg=>by
  cases elems with
  |nil=>simp[List.length]at hl
  |cons y el=>
   have NR:=bkAr r b (o+3) hr el n (by simpa[List.length]using hl) (λi hi=>by
    have:=hg (i+1) (by simp only[List.length];omega)
    rwa [show o+(i+1)*3=o+3+i*3 from by omega,List.getElem?_cons_succ]at this)
   have g0:=hg 0 (by simp[List.length]);simp only[Nat.zero_mul,Nat.add_zero,List.getElem?_cons_zero]at g0;obtain⟨cs,hc,ht⟩:=Option.bind_eq_some_iff.1 g0;obtain⟨_,Ki,Hd⟩:=World.cells?_some hc;obtain⟨ys,n',_,hy,_,Kg,hf⟩:=DataW.trod_struct Tryz.underlying66 ht;have a0:=(Hd 0 (by omega)).symm;rw[zbq]at a0;have a0:=a0.trans h0
   match ys,Kg,hy,hf with
   | [z0,z1,z2],_,hy,hf=>
    have e0:=zf6 (off:=0) Tryz.underlying9 zec a0 (hf 0 _ rfl);simp only[mA,List.map_cons,List.map_nil,Rows.uptoBulkAll,hy,Rows.uptoBulk];omega
theorem bkPr {S:Nat->Prop}{Z:Prop}:∀(xs:List Prc)(b o:Nat),PrR w S Z xs b o->∀(elems:List (DataW H×List MemPlace))(n:Nat),elems.length=xs.length->(∀i,i < xs.length->(w.cells? base ⟨b,o+i*4,none⟩ 4).bind (DataW.trod enc Tryz.prog w base spare held n 68)=elems[i]?)->mP xs<=Rows.uptoBulkAll (elems.map (·.1))
 | [],_,_,_,_,_,_,_=>Nat.zero_le _
 |p::r,b,o,⟨⟨_,_,_,h0,h3⟩,⟨A1,c1,h1,s1⟩,⟨A2,c2,h2,s2⟩,hr⟩,elems,n,hl,hg=>by
  cases elems with
  |nil=>simp[List.length]at hl
  |cons y el=>
   have NR:=bkPr r b (o+4) hr el n (by simpa[List.length]using hl) (λi hi=>by
    have:=hg (i+1) (by simp only[List.length];omega)
    rwa [show o+(i+1)*4=o+4+i*4 from by omega,List.getElem?_cons_succ]at this)
   have g0:=hg 0 (by simp[List.length]);simp only[Nat.zero_mul,Nat.add_zero,List.getElem?_cons_zero]at g0;obtain⟨cs,hc,ht⟩:=Option.bind_eq_some_iff.1 g0;obtain⟨_,Ki,Hd⟩:=World.cells?_some hc;obtain⟨ys,n',_,hy,_,Kg,hf⟩:=DataW.trod_struct Tryz.underlying68 ht;have a0:=(Hd 0 (by omega)).symm;rw[zbq]at a0;have a0:=a0.trans h0;have a1:=(Hd 1 (by omega)).symm;rw[zbq]at a1;have a1:=a1.trans h1;have a2:=(Hd 2 (by omega)).symm;rw[zbq]at a2;have a2:=a2.trans h2
   match ys,Kg,hy,hf with
   | [z0,z1,z2,z3],_,hy,hf=>
    have e0:=zf6 (off:=0) Tryz.underlying9 zec a0 (hf 0 _ rfl);have e1:=zbI (off:=1) (M:=mV p.params) Tryz.underlying22 zlp c_Va s1 mV_0 (λb o h=>bkVa p.params b o h) a1 (hf 1 _ rfl);have e2:=zbI (off:=2) (M:=mS p.body) Tryz.underlying25 zf5 c_St s2 mS_0 (λb o h=>bkSt p.body b o h) a2 (hf 2 _ rfl);simp only[mP,List.map_cons,List.map_nil,Rows.uptoBulkAll,hy,Rows.uptoBulk];omega
theorem zns {t:Tre}{S:Nat->Prop}{Z:Prop}{Av Aa Ap Am:Option Addr}{cv ca cp cm:Nat}{d:DataW H}{p:List MemPlace}(h:DataW.Trod enc Tryz.prog w base spare held 27 (trV t Av Aa Ap Am cv ca cp cm) d p)(hx:TrR w S Z t Av Aa Ap Am cv ca cp cm):mT t<=Rows.uptoBulk d:=by
 obtain⟨fuel,hf⟩:=h;obtain⟨xs,n,_,hy,_,hlen,hg⟩:=DataW.trod_struct Tryz.underlying27 hf;have hd:=(Prod.mk.inj hy).1
 match xs,hlen,hd,hg with
 | [y0,y1,y2,y3],_,hd,hg=>
  have e0:=zbI (cs:= [.slice Av t.vars.length cv,.slice Aa t.arrays.length ca,.slice Ap t.procs.length cp,.slice Am t.main.len cm]) (off:=0) (M:=mV t.vars) Tryz.underlying22 zlp c_Va hx.vars mV_0 (λb o h=>bkVa t.vars b o h) rfl (hg 0 _ rfl);have e1:=zbI (cs:= [.slice Av t.vars.length cv,.slice Aa t.arrays.length ca,.slice Ap t.procs.length cp,.slice Am t.main.len cm]) (off:=1) (M:=mA t.arrays) Tryz.underlying23 zno c_Ar hx.arrays mA_0 (λb o h=>bkAr t.arrays b o h) rfl (hg 1 _ rfl);have e2:=zbI (cs:= [.slice Av t.vars.length cv,.slice Aa t.arrays.length ca,.slice Ap t.procs.length cp,.slice Am t.main.len cm]) (off:=2) (M:=mP t.procs) Tryz.underlying24 znq c_Pr hx.procs mP_0 (λb o h=>bkPr t.procs b o h) rfl (hg 2 _ rfl);have e3:=zbI (cs:= [.slice Av t.vars.length cv,.slice Aa t.arrays.length ca,.slice Ap t.procs.length cp,.slice Am t.main.len cm]) (off:=3) (M:=mS t.main) Tryz.underlying25 zf5 c_St hx.main mS_0 (λb o h=>bkSt t.main b o h) rfl (hg 3 _ rfl);rw[hd];simp only[mT,List.map_cons,List.map_nil,Rows.uptoBulkAll,Rows.uptoBulk];omega
end
theorem zmI {H:Type}{ds:List (DataW H)}(h:Rows.uptoSmall H ds=true):Rows.uptoBulkAll ds<=1048576:=by
 have h:=of_decide_eq_true h;exact h
