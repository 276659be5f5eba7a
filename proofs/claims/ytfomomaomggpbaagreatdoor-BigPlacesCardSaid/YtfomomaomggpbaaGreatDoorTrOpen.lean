/- A tree. -/
import Derived.Test.YtfomomaomggpbaaGreatDoorJnCkC
set_option linter.all false
set_option maxRecDepth 100000
namespace Go.Proofs.YtfomomaomggpbaaGreatDoor
open Go.RowKit Go.Shelf Go.ChangeShapes Go.WideShapes
section
variable {H:Type} {P:Program}
def WtOk (P:Program)(t:TypeId)(d:DataW H):Prop:=(DataW.weights P t d).all (λx=>decide (x<=reachBytes))=true
theorem zgS {e:TypeId}{d:DataW H}:∀ {l:List (DataW H)},d∈l->(DataW.weightsAll P e l).all (λx=>decide (x<=reachBytes))=true->WtOk P e d
 | [],h,_=>by simp at h
 |a::r,h,hw=>by
  simp only[DataW.weightsAll,List.all_append,Bool.and_eq_true]at hw;rcases List.mem_cons.1 h with rfl|h
  ·exact hw.1
  ·exact zgS h hw.2
theorem zdq:∀ {ts:List TypeId} {ds:List (DataW H)} {j:Nat} {t:TypeId} {d:DataW H},ts[j]?=some t->ds[j]?=some d->(DataW.weightsEach P ts ds).all (λx=>decide (x<=reachBytes))=true->WtOk P t d
 | [],_,_,_,_,h,_,_=>by simp at h
 |_::_, [],_,_,_,_,h,_=>by simp at h
 |a::ts,b::ds,0,t,d,h1,h2,hw=>by
  simp only[DataW.weightsEach,List.all_append,Bool.and_eq_true]at hw;simp only[List.getElem?_cons_zero,Option.some.injEq]at h1 h2;rw[<-h1,<-h2];exact hw.1
 |a::ts,b::ds,j+1,t,d,h1,h2,hw=>by
  simp only[DataW.weightsEach,List.all_append,Bool.and_eq_true]at hw;simp only[List.getElem?_cons_succ]at h1 h2;exact zdq h1 h2 hw.2
theorem zcm {t e:TypeId}(ht:P.underlying t=some (.slice e)){E R:List (DataW H)}(h:WtOk P t (.slice E R)):(E.length+R.length)*P.bytesOf e<=reachBytes/\∀d∈E,WtOk P e d:=by
 unfold WtOk at h;simp only[DataW.weights,ht,List.all_cons,List.all_append,Bool.and_eq_true,decide_eq_true_eq]at h;exact⟨h.1,λd hd=>zgS hd h.2.1⟩
theorem zaB {t:TypeId}{fs:Array Field}(ht:P.underlying t=some (.struct fs)){ys:List (DataW H×List MemPlace)}(h:WtOk P t (.agg (ys.map (·.1)))){j:Nat}{f:Field}{z:DataW H×List MemPlace}(hf:fs[j]?=some f)(hz:ys[j]?=some z):WtOk P f.type z.1:=by
 unfold WtOk at h;simp only[DataW.weights,ht]at h;refine zdq (j:=j) (t:=f.type) (d:=z.1) ?_ ?_ h
 ·simp[hf]
 ·simp[hz]
end
section
variable {H:Type} {enc:TypeId×Value->H} {w:World} {base:Nat} {spare:Nat->Bool} {held:Bool}
theorem zb9 {a:Addr}{v:Value}(h:w.cell? a=some v):a.block < w.heap.size/\a.spot=none:=by
 unfold World.cell? at h;cases hb:w.heap[a.block]? with
 |none=>rw[hb]at h;exact absurd h (by simp)
 |some o=>
  refine⟨(Array.getElem?_eq_some_iff.1 hb).1,?_⟩;rw[hb]at h;cases o<;>simp at h;all_goals first|exact h.1|(cases hs:a.spot<;>simp_all)
theorem zfR {cs:List Value}{off:Nat}{v:Value}(h:cs[off]?=some v):(cs.drop off).take 1= [v]:=by
 obtain⟨hi,rfl⟩:=List.getElem?_eq_some_iff.1 h;rw[List.drop_eq_getElem_cons hi];rfl
theorem zaN {k:IntKind}{t:TypeId}{n:Nat}{off:Nat}{cs:List Value}{y:DataW H×List MemPlace}(ht:Tryz.prog.underlying t=some (.int k))(hc:Tryz.prog.cellsOf t=1)(ho:off < cs.length)
  (h:DataW.trod enc Tryz.prog w base spare held n t ((cs.drop off).take (Tryz.prog.cellsOf t))=some y):∃v,cs[off]?=some (.int k v)/\(Lit.int k v).wf =true:=by
 rw[hc,zfR (List.getElem?_eq_getElem ho)]at h;obtain⟨v,hv,_,hw⟩:=DataW.trod_int ht h;exact⟨v,(List.getElem?_eq_getElem ho).trans (congrArg some (List.cons.inj hv).1),hw⟩
theorem zca {t:TypeId}{n:Nat}{off:Nat}{cs:List Value}{y:DataW H×List MemPlace}(ht:Tryz.prog.underlying t=some .string)(hc:Tryz.prog.cellsOf t=1)(ho:off < cs.length)
  (h:DataW.trod enc Tryz.prog w base spare held n t ((cs.drop off).take (Tryz.prog.cellsOf t))=some y):∃s,cs[off]?=some (.string s)/\s.size<=9223372036854775807:=by
 rw[hc,zfR (List.getElem?_eq_getElem ho)]at h;obtain⟨s,hv,_,hz⟩:=DataW.trod_string ht h;exact⟨s,(List.getElem?_eq_getElem ho).trans (congrArg some (List.cons.inj hv).1),by simpa[maxLen]using hz⟩
theorem zaC {t:TypeId}{n:Nat}{off:Nat}{cs:List Value}{y:DataW H×List MemPlace}(hc:Tryz.prog.cellsOf t=1)(ho:off < cs.length)
  (h:DataW.trod enc Tryz.prog w base spare held n t ((cs.drop off).take (Tryz.prog.cellsOf t))=some y):∃v,cs[off]?=some v/\DataW.trod enc Tryz.prog w base spare held n t [v]=some y:=by
 rw[hc,zfR (List.getElem?_eq_getElem ho)]at h;exact⟨_,List.getElem?_eq_getElem ho,h⟩
theorem zaP {a:Int}(h:(Lit.int .i64 a).wf =true):in64 a:=by simpa[in64,Lit.wf,IntKind.min,IntKind.max,IntKind.signed,IntKind.bits]using h
theorem zet {a:Int}(h:(Lit.int .u8 a).wf =true):in8 a:=by simpa[in8,Lit.wf,IntKind.min,IntKind.max,IntKind.signed,IntKind.bits]using h
theorem c_u8:Tryz.prog.cellsOf 5=1:=by kernel_rfl
theorem zkN:Tryz.prog.cellsOf 9=1:=by kernel_rfl
theorem zfS:Tryz.prog.cellsOf 3=1:=by kernel_rfl
abbrev Old (w:World):Nat->Prop:=λb=>b < w.heap.size
theorem zbh {b:Nat}{a:Addr}{len m:Nat}{e:TypeId}{elems:List (DataW H×List MemPlace)}{n:Nat}(hm:0 < m)(hc:Tryz.prog.cellsOf e=m)(Ku:elems.length=len)(Fy:∀i,i < len->(w.cells? base (a.add (i*Tryz.prog.cellsOf e)) (Tryz.prog.cellsOf e)).bind (DataW.trod enc Tryz.prog w base spare held n e)=elems[i]?)(hi:0 < len):a.spot=none:=by
 have h1:=Fy 0 hi;obtain⟨y,hy⟩:∃y,elems[0]?=some y:=⟨_,List.getElem?_eq_getElem (by omega)⟩;rw[hy]at h1;obtain⟨xh,Nv,_⟩:=Option.bind_eq_some_iff.1 h1;rw[hc]at Nv;obtain⟨_,GC,Hg⟩:=World.cells?_some Nv;have h2:=(Hg 0 hm).trans (List.getElem?_eq_getElem (by omega));rw[Nat.zero_mul]at h2;exact(zb9 (a:=a) h2).2
theorem zdr {a:Addr}(GN:a.spot=none)(i j:Nat):(a.add i).add j=⟨a.block,a.off+i+j,none⟩:=by
 unfold Addr.add;by_cases h1:i=0<;>by_cases h2:j=0<;>simp[h1,h2]
 all_goals(cases a;simp_all)
theorem c_Ex:Tryz.prog.cellsOf 175=5:=by kernel_rfl
theorem zoT:Tryz.prog.cellsOf 48=1:=by kernel_rfl
theorem by_Ex:Tryz.prog.bytesOf 175=64:=by kernel_rfl
def OEx (w:World)(xs:Exs)(A:Option Addr)(c:Nat):Prop:=SlR (λb o=>ExR w (Old w) False xs b o) xs.len 64 A c/\(szX xs)/\xs.len*64<=140737488351232
def zn1 (w:World)(b o:Nat):Prop:=∃(k:Int)(nm:ByteArray)(n:Int)(args:Exs)(at_:Int)(A3:Option Addr)(c3:Nat),w.cell? ⟨b,o,none⟩=some (.int .u8 k)/\w.cell? ⟨b,o+1,none⟩=some (.string nm)/\w.cell? ⟨b,o+2,none⟩=some (.int .i64 n)/\w.cell? ⟨b,o+3,none⟩=some (.slice A3 args.len c3)/\w.cell? ⟨b,o+4,none⟩=some (.int .i64 at_)/\OEx w args A3 c3/\in8 k/\nm.size<=9223372036854775807/\in64 n/\in64 at_
theorem zkO {b:Nat}:∀(len o:Nat),(∀i,i < len->zn1 w b (o+i*5))->∃xs:Exs,xs.len=len/\ExR w (Old w) False xs b o/\szX xs
 |0,_,_=>⟨.nil,rfl,trivial,trivial⟩
 |len+1,o,h=>by
  obtain⟨xs,hl,hx,hz⟩:=zkO len (o+5) (λi hi=>by have:=h (i+1) (by omega);rwa [show o+(i+1)*5=o+5+i*5 from by omega]at this);obtain⟨k,nm,n,args,at_,A3,c3,h0,h1,h2,h3,h4,s3,r0,r1,r2,r4⟩:=h 0 (by omega);rw[Nat.zero_mul,Nat.add_zero]at h0 h1 h2 h3 h4;exact⟨.cons k nm n args at_ xs,by simp only[Exs.len,hl],⟨⟨(zb9 h0).1,λz=>z.elim,r0,r2,r4,h0,h1,h2,h4⟩,⟨A3,c3,h3,s3.1⟩,hx⟩,⟨r1,s3.2.1,hz⟩⟩
theorem zn2:∀(fuel:Nat)(v:Value)(x:DataW H×List MemPlace),DataW.trod enc Tryz.prog w base spare held fuel 48 [v]=some x->WtOk Tryz.prog 48 x.1->∃(xs:Exs)(A:Option Addr)(c:Nat),v= .slice A xs.len c/\OEx w xs A c:=by
 intro fuel
 induction fuel using Nat.strongRecOn with
 |_ fuel ih=>
 intro v x h Fs;rcases DataW.trod_slice Tryz.underlying48 h with⟨h0,_⟩|⟨a,len,cap,elems,rest,n,hn,Gp,hx,_,Pz,G7,Ku,Fy,_⟩
 ·have h0:=(List.cons.inj h0).1;exact⟨.nil,none,0,h0,⟨by simp[Exs.len],⟨by decide,by decide⟩,by simp[Exs.len]⟩,trivial,by decide⟩
 ·have Gp:=(List.cons.inj Gp).1;subst Gp;rw[hx]at Fs;have Fs:=zcm Tryz.underlying48 Fs;have Gf:=Fs.1;rw[by_Ex,List.length_map,List.length_map,Ku]at Gf;have key:∀i,i < len->zn1 w a.block (a.off+i*5):=by
   intro i hi;have GN:=zbh (b:=0) (by omega) c_Ex Ku Fy (by omega);have h1:=Fy i hi;obtain⟨y,hy⟩:∃y,elems[i]?=some y:=⟨_,List.getElem?_eq_getElem (by omega)⟩;have Md:=Fs.2 y.1 (List.mem_map_of_mem (List.mem_of_getElem? hy));rw[hy]at h1;obtain⟨xh,hc,ht⟩:=Option.bind_eq_some_iff.1 h1;rw[c_Ex]at hc;obtain⟨_,GC,Hg⟩:=World.cells?_some hc;obtain⟨ys,n',QX,L1,_,MD,hf⟩:=DataW.trod_struct Tryz.underlying175 ht;rw[L1]at Md;have g:∀j,j < 5->∃z,ys[j]?=some z:=λj hj=>⟨_,List.getElem?_eq_getElem (by rw[MD];exact hj)⟩;obtain⟨z0,Fg⟩:=g 0 (by omega);obtain⟨f0,e0,w0⟩:=zaN Tryz.underlying5 c_u8 (off:=0) (by omega) ((hf 0 _ rfl).trans Fg);obtain⟨z1,Hw⟩:=g 1 (by omega);obtain⟨f1,e1,w1⟩:=zca Tryz.underlying9 zkN (off:=1) (by omega) ((hf 1 _ rfl).trans Hw);obtain⟨z2,G5⟩:=g 2 (by omega);obtain⟨f2,e2,w2⟩:=zaN Tryz.underlying3 zfS (off:=2) (by omega) ((hf 2 _ rfl).trans G5);obtain⟨z3,PV⟩:=g 3 (by omega);obtain⟨v3,e3,t3⟩:=zaC zoT (off:=3) (by omega) ((hf 3 _ rfl).trans PV);have uJ:WtOk Tryz.prog 48 z3.1:=zaB Tryz.underlying175 Md (j:=3) rfl PV;obtain⟨f3,A3,c3,rfl,s3⟩:=ih n' (by omega) v3 z3 t3 uJ;obtain⟨z4,Vr⟩:=g 4 (by omega);obtain⟨f4,e4,w4⟩:=zaN Tryz.underlying3 zfS (off:=4) (by omega) ((hf 4 _ rfl).trans Vr);have ad:∀j,(a.add (i*5)).add j=⟨a.block,a.off+i*5+j,none⟩:=zdr GN _;refine⟨f0,f1,f2,f3,f4,A3,c3,?_,?_,?_,?_,?_,s3,zet w0,w1,zaP w2,zaP w4⟩
   ·have:=(Hg 0 (by omega)).trans e0;rwa [ad]at this
   ·have:=(Hg 1 (by omega)).trans e1;rwa [ad]at this
   ·have:=(Hg 2 (by omega)).trans e2;rwa [ad]at this
   ·have:=(Hg 3 (by omega)).trans e3;rwa [ad]at this
   ·have:=(Hg 4 (by omega)).trans e4;rwa [ad]at this
  obtain⟨xs,hl,hx,hz⟩:=zkO (w:=w) (b:=a.block) len a.off (λi hi=>key i hi);have QY:len*64<=140737488351232:=by unfold reachBytes at Gf;have:len*64<=(len+rest.length)*64:=Nat.mul_le_mul_right _ (by omega);omega
  refine⟨xs,some a,cap,by rw[hl],⟨by rw[hl];exact Pz,⟨by simpa[maxLen]using G7,by rw[hl];omega⟩,λhp=>⟨a.block,a.off,?_,hx⟩⟩,hz,by rw[hl];exact QY⟩;have:=zbh (b:=0) (by omega) c_Ex Ku Fy (by omega);cases a
  simp_all
theorem c_Co:Tryz.prog.cellsOf 179=4:=by kernel_rfl
theorem zp2:Tryz.prog.cellsOf 49=1:=by kernel_rfl
theorem by_Co:Tryz.prog.bytesOf 179=64:=by kernel_rfl
def OCo (w:World)(xs:Cds)(A:Option Addr)(c:Nat):Prop:=SlR (λb o=>CdR w (Old w) False xs b o) xs.len 64 A c/\(szC xs)/\xs.len*64<=140737488351232
def zn3 (w:World)(b o:Nat):Prop:=∃(k:Int)(args:Exs)(of_:Cds)(at_:Int)(A1:Option Addr)(c1:Nat)(A2:Option Addr)(c2:Nat),w.cell? ⟨b,o,none⟩=some (.int .u8 k)/\w.cell? ⟨b,o+1,none⟩=some (.slice A1 args.len c1)/\w.cell? ⟨b,o+2,none⟩=some (.slice A2 of_.len c2)/\w.cell? ⟨b,o+3,none⟩=some (.int .i64 at_)/\OEx w args A1 c1/\OCo w of_ A2 c2/\in8 k/\in64 at_
theorem zkP {b:Nat}:∀(len o:Nat),(∀i,i < len->zn3 w b (o+i*4))->∃xs:Cds,xs.len=len/\CdR w (Old w) False xs b o/\szC xs
 |0,_,_=>⟨.nil,rfl,trivial,trivial⟩
 |len+1,o,h=>by
  obtain⟨xs,hl,hx,hz⟩:=zkP len (o+4) (λi hi=>by have:=h (i+1) (by omega);rwa [show o+(i+1)*4=o+4+i*4 from by omega]at this);obtain⟨k,args,of_,at_,A1,c1,A2,c2,h0,h1,h2,h3,s1,s2,r0,r3⟩:=h 0 (by omega);rw[Nat.zero_mul,Nat.add_zero]at h0 h1 h2 h3;exact⟨.cons k args of_ at_ xs,by simp only[Cds.len,hl],⟨⟨(zb9 h0).1,λz=>z.elim,r0,r3,h0,h3⟩,⟨A1,c1,h1,s1.1⟩,⟨A2,c2,h2,s2.1⟩,hx⟩,⟨s1.2.1,s2.2.1,hz⟩⟩
theorem zp3:∀(fuel:Nat)(v:Value)(x:DataW H×List MemPlace),DataW.trod enc Tryz.prog w base spare held fuel 49 [v]=some x->WtOk Tryz.prog 49 x.1->∃(xs:Cds)(A:Option Addr)(c:Nat),v= .slice A xs.len c/\OCo w xs A c:=by
 intro fuel
 induction fuel using Nat.strongRecOn with
 |_ fuel ih=>
 intro v x h Fs;rcases DataW.trod_slice Tryz.underlying49 h with⟨h0,_⟩|⟨a,len,cap,elems,rest,n,hn,Gp,hx,_,Pz,G7,Ku,Fy,_⟩
 ·have h0:=(List.cons.inj h0).1;exact⟨.nil,none,0,h0,⟨by simp[Cds.len],⟨by decide,by decide⟩,by simp[Cds.len]⟩,trivial,by decide⟩
 ·have Gp:=(List.cons.inj Gp).1;subst Gp;rw[hx]at Fs;have Fs:=zcm Tryz.underlying49 Fs;have Gf:=Fs.1;rw[by_Co,List.length_map,List.length_map,Ku]at Gf;have key:∀i,i < len->zn3 w a.block (a.off+i*4):=by
   intro i hi;have GN:=zbh (b:=0) (by omega) c_Co Ku Fy (by omega);have h1:=Fy i hi;obtain⟨y,hy⟩:∃y,elems[i]?=some y:=⟨_,List.getElem?_eq_getElem (by omega)⟩;have Md:=Fs.2 y.1 (List.mem_map_of_mem (List.mem_of_getElem? hy));rw[hy]at h1;obtain⟨xh,hc,ht⟩:=Option.bind_eq_some_iff.1 h1;rw[c_Co]at hc;obtain⟨_,GC,Hg⟩:=World.cells?_some hc;obtain⟨ys,n',QX,L1,_,MD,hf⟩:=DataW.trod_struct Tryz.underlying179 ht;rw[L1]at Md;have g:∀j,j < 4->∃z,ys[j]?=some z:=λj hj=>⟨_,List.getElem?_eq_getElem (by rw[MD];exact hj)⟩;obtain⟨z0,Fg⟩:=g 0 (by omega);obtain⟨f0,e0,w0⟩:=zaN Tryz.underlying5 c_u8 (off:=0) (by omega) ((hf 0 _ rfl).trans Fg);obtain⟨z1,Hw⟩:=g 1 (by omega);obtain⟨v1,e1,t1⟩:=zaC zoT (off:=1) (by omega) ((hf 1 _ rfl).trans Hw);have uK:WtOk Tryz.prog 48 z1.1:=zaB Tryz.underlying179 Md (j:=1) rfl Hw;obtain⟨f1,A1,c1,rfl,s1⟩:=zn2 n' v1 z1 t1 uK;obtain⟨z2,G5⟩:=g 2 (by omega);obtain⟨v2,e2,t2⟩:=zaC zp2 (off:=2) (by omega) ((hf 2 _ rfl).trans G5);have x9:WtOk Tryz.prog 49 z2.1:=zaB Tryz.underlying179 Md (j:=2) rfl G5;obtain⟨f2,A2,c2,rfl,s2⟩:=ih n' (by omega) v2 z2 t2 x9;obtain⟨z3,PV⟩:=g 3 (by omega);obtain⟨f3,e3,w3⟩:=zaN Tryz.underlying3 zfS (off:=3) (by omega) ((hf 3 _ rfl).trans PV);have ad:∀j,(a.add (i*4)).add j=⟨a.block,a.off+i*4+j,none⟩:=zdr GN _;refine⟨f0,f1,f2,f3,A1,c1,A2,c2,?_,?_,?_,?_,s1,s2,zet w0,zaP w3⟩
   ·have:=(Hg 0 (by omega)).trans e0;rwa [ad]at this
   ·have:=(Hg 1 (by omega)).trans e1;rwa [ad]at this
   ·have:=(Hg 2 (by omega)).trans e2;rwa [ad]at this
   ·have:=(Hg 3 (by omega)).trans e3;rwa [ad]at this
  obtain⟨xs,hl,hx,hz⟩:=zkP (w:=w) (b:=a.block) len a.off (λi hi=>key i hi);have QY:len*64<=140737488351232:=by unfold reachBytes at Gf;have:len*64<=(len+rest.length)*64:=Nat.mul_le_mul_right _ (by omega);omega
  refine⟨xs,some a,cap,by rw[hl],⟨by rw[hl];exact Pz,⟨by simpa[maxLen]using G7,by rw[hl];omega⟩,λhp=>⟨a.block,a.off,?_,hx⟩⟩,hz,by rw[hl];exact QY⟩;have:=zbh (b:=0) (by omega) c_Co Ku Fy (by omega);cases a
  simp_all
theorem c_St:Tryz.prog.cellsOf 51=7:=by kernel_rfl
theorem zna:Tryz.prog.cellsOf 25=1:=by kernel_rfl
theorem by_St:Tryz.prog.bytesOf 51=128:=by kernel_rfl
def OSt (w:World)(xs:Sts)(A:Option Addr)(c:Nat):Prop:=SlR (λb o=>StR w (Old w) False xs b o) xs.len 128 A c/\(szS xs)/\xs.len*128<=140737488351232
def zn4 (w:World)(b o:Nat):Prop:=∃(k:Int)(nm:ByteArray)(args:Exs)(cond:Cds)(body:Sts)(els:Sts)(at_:Int)(A2:Option Addr)(c2:Nat)(A3:Option Addr)(c3:Nat)(A4:Option Addr)(c4:Nat)(A5:Option Addr)(c5:Nat),w.cell? ⟨b,o,none⟩=some (.int .u8 k)/\w.cell? ⟨b,o+1,none⟩=some (.string nm)/\w.cell? ⟨b,o+2,none⟩=some (.slice A2 args.len c2)/\w.cell? ⟨b,o+3,none⟩=some (.slice A3 cond.len c3)/\w.cell? ⟨b,o+4,none⟩=some (.slice A4 body.len c4)/\w.cell? ⟨b,o+5,none⟩=some (.slice A5 els.len c5)/\w.cell? ⟨b,o+6,none⟩=some (.int .i64 at_)/\OEx w args A2 c2/\OCo w cond A3 c3/\OSt w body A4 c4/\OSt w els A5 c5/\in8 k/\nm.size<=9223372036854775807/\in64 at_
theorem zkQ {b:Nat}:∀(len o:Nat),(∀i,i < len->zn4 w b (o+i*7))->∃xs:Sts,xs.len=len/\StR w (Old w) False xs b o/\szS xs
 |0,_,_=>⟨.nil,rfl,trivial,trivial⟩
 |len+1,o,h=>by
  obtain⟨xs,hl,hx,hz⟩:=zkQ len (o+7) (λi hi=>by have:=h (i+1) (by omega);rwa [show o+(i+1)*7=o+7+i*7 from by omega]at this);obtain⟨k,nm,args,cond,body,els,at_,A2,c2,A3,c3,A4,c4,A5,c5,h0,h1,h2,h3,h4,h5,h6,s2,s3,s4,s5,r0,r1,r6⟩:=h 0 (by omega);rw[Nat.zero_mul,Nat.add_zero]at h0 h1 h2 h3 h4 h5 h6;exact⟨.cons k nm args cond body els at_ xs,by simp only[Sts.len,hl],⟨⟨(zb9 h0).1,λz=>z.elim,r0,r6,h0,h1,h6⟩,⟨A2,c2,h2,s2.1⟩,⟨A3,c3,h3,s3.1⟩,⟨A4,c4,h4,s4.1⟩,⟨A5,c5,h5,s5.1⟩,hx⟩,⟨r1,s2.2.1,s3.2.1,s4.2.1,s5.2.1,hz⟩⟩
theorem zn5:∀(fuel:Nat)(v:Value)(x:DataW H×List MemPlace),DataW.trod enc Tryz.prog w base spare held fuel 25 [v]=some x->WtOk Tryz.prog 25 x.1->∃(xs:Sts)(A:Option Addr)(c:Nat),v= .slice A xs.len c/\OSt w xs A c:=by
 intro fuel
 induction fuel using Nat.strongRecOn with
 |_ fuel ih=>
 intro v x h Fs;rcases DataW.trod_slice Tryz.underlying25 h with⟨h0,_⟩|⟨a,len,cap,elems,rest,n,hn,Gp,hx,_,Pz,G7,Ku,Fy,_⟩
 ·have h0:=(List.cons.inj h0).1;exact⟨.nil,none,0,h0,⟨by simp[Sts.len],⟨by decide,by decide⟩,by simp[Sts.len]⟩,trivial,by decide⟩
 ·have Gp:=(List.cons.inj Gp).1;subst Gp;rw[hx]at Fs;have Fs:=zcm Tryz.underlying25 Fs;have Gf:=Fs.1;rw[by_St,List.length_map,List.length_map,Ku]at Gf;have key:∀i,i < len->zn4 w a.block (a.off+i*7):=by
   intro i hi;have GN:=zbh (b:=0) (by omega) c_St Ku Fy (by omega);have h1:=Fy i hi;obtain⟨y,hy⟩:∃y,elems[i]?=some y:=⟨_,List.getElem?_eq_getElem (by omega)⟩;have Md:=Fs.2 y.1 (List.mem_map_of_mem (List.mem_of_getElem? hy));rw[hy]at h1;obtain⟨xh,hc,ht⟩:=Option.bind_eq_some_iff.1 h1;rw[c_St]at hc;obtain⟨_,GC,Hg⟩:=World.cells?_some hc;obtain⟨ys,n',QX,L1,_,MD,hf⟩:=DataW.trod_struct Tryz.underlying51 ht;rw[L1]at Md;have g:∀j,j < 7->∃z,ys[j]?=some z:=λj hj=>⟨_,List.getElem?_eq_getElem (by rw[MD];exact hj)⟩;obtain⟨z0,Fg⟩:=g 0 (by omega);obtain⟨f0,e0,w0⟩:=zaN Tryz.underlying5 c_u8 (off:=0) (by omega) ((hf 0 _ rfl).trans Fg);obtain⟨z1,Hw⟩:=g 1 (by omega);obtain⟨f1,e1,w1⟩:=zca Tryz.underlying9 zkN (off:=1) (by omega) ((hf 1 _ rfl).trans Hw);obtain⟨z2,G5⟩:=g 2 (by omega);obtain⟨v2,e2,t2⟩:=zaC zoT (off:=2) (by omega) ((hf 2 _ rfl).trans G5);have x9:WtOk Tryz.prog 48 z2.1:=zaB Tryz.underlying51 Md (j:=2) rfl G5;obtain⟨f2,A2,c2,rfl,s2⟩:=zn2 n' v2 z2 t2 x9;obtain⟨z3,PV⟩:=g 3 (by omega);obtain⟨v3,e3,t3⟩:=zaC zp2 (off:=3) (by omega) ((hf 3 _ rfl).trans PV);have uJ:WtOk Tryz.prog 49 z3.1:=zaB Tryz.underlying51 Md (j:=3) rfl PV;obtain⟨f3,A3,c3,rfl,s3⟩:=zp3 n' v3 z3 t3 uJ;obtain⟨z4,Vr⟩:=g 4 (by omega);obtain⟨v4,e4,t4⟩:=zaC zna (off:=4) (by omega) ((hf 4 _ rfl).trans Vr);have DL:WtOk Tryz.prog 25 z4.1:=zaB Tryz.underlying51 Md (j:=4) rfl Vr;obtain⟨f4,A4,c4,rfl,s4⟩:=ih n' (by omega) v4 z4 t4 DL
   obtain⟨z5,WB⟩:=g 5 (by omega);obtain⟨v5,e5,t5⟩:=zaC zna (off:=5) (by omega) ((hf 5 _ rfl).trans WB);have DM:WtOk Tryz.prog 25 z5.1:=zaB Tryz.underlying51 Md (j:=5) rfl WB;obtain⟨f5,A5,c5,rfl,s5⟩:=ih n' (by omega) v5 z5 t5 DM;obtain⟨z6,Y8⟩:=g 6 (by omega);obtain⟨f6,e6,w6⟩:=zaN Tryz.underlying3 zfS (off:=6) (by omega) ((hf 6 _ rfl).trans Y8);have ad:∀j,(a.add (i*7)).add j=⟨a.block,a.off+i*7+j,none⟩:=zdr GN _;refine⟨f0,f1,f2,f3,f4,f5,f6,A2,c2,A3,c3,A4,c4,A5,c5,?_,?_,?_,?_,?_,?_,?_,s2,s3,s4,s5,zet w0,w1,zaP w6⟩
   ·have:=(Hg 0 (by omega)).trans e0;rwa [ad]at this
   ·have:=(Hg 1 (by omega)).trans e1;rwa [ad]at this
   ·have:=(Hg 2 (by omega)).trans e2;rwa [ad]at this
   ·have:=(Hg 3 (by omega)).trans e3;rwa [ad]at this
   ·have:=(Hg 4 (by omega)).trans e4;rwa [ad]at this
   ·have:=(Hg 5 (by omega)).trans e5;rwa [ad]at this
   ·have:=(Hg 6 (by omega)).trans e6;rwa [ad]at this
  obtain⟨xs,hl,hx,hz⟩:=zkQ (w:=w) (b:=a.block) len a.off (λi hi=>key i hi);have QY:len*128<=140737488351232:=by unfold reachBytes at Gf;have:len*128<=(len+rest.length)*128:=Nat.mul_le_mul_right _ (by omega);omega
  refine⟨xs,some a,cap,by rw[hl],⟨by rw[hl];exact Pz,⟨by simpa[maxLen]using G7,by rw[hl];omega⟩,λhp=>⟨a.block,a.off,?_,hx⟩⟩,hz,by rw[hl];exact QY⟩;have:=zbh (b:=0) (by omega) c_St Ku Fy (by omega);cases a
  simp_all
theorem c_Va:Tryz.prog.cellsOf 77=2:=by kernel_rfl
theorem zp4:Tryz.prog.cellsOf 22=1:=by kernel_rfl
theorem by_Va:Tryz.prog.bytesOf 77=24:=by kernel_rfl
def OVa (w:World)(xs:List Va)(A:Option Addr)(c:Nat):Prop:=SlR (λb o=>VaR w (Old w) False xs b o) xs.length 24 A c/\(∀x∈xs,x.nm.size<=9223372036854775807)/\xs.length*24<=140737488351232
def zn6 (w:World)(b o:Nat):Prop:=∃(nm:ByteArray)(at_:Int),w.cell? ⟨b,o,none⟩=some (.string nm)/\w.cell? ⟨b,o+1,none⟩=some (.int .i64 at_)/\nm.size<=9223372036854775807/\in64 at_
theorem zkR {b:Nat}:∀(len o:Nat),(∀i,i < len->zn6 w b (o+i*2))->∃xs:List Va,xs.length=len/\VaR w (Old w) False xs b o/\∀x∈xs,x.nm.size<=9223372036854775807
 |0,_,_=>⟨[],rfl,trivial,λx hx=>by simp at hx⟩
 |len+1,o,h=>by
  obtain⟨xs,hl,hx,hz⟩:=zkR len (o+2) (λi hi=>by have:=h (i+1) (by omega);rwa [show o+(i+1)*2=o+2+i*2 from by omega]at this);obtain⟨nm,at_,h0,h1,r0,r1⟩:=h 0 (by omega);rw[Nat.zero_mul,Nat.add_zero]at h0 h1;exact⟨(⟨nm,at_⟩:Va)::xs,by simp[hl],⟨⟨(zb9 h0).1,λz=>z.elim,r1,h0,h1⟩,hx⟩,λy hy=>by
   rcases List.mem_cons.1 hy with rfl|hy
   ·exact r0
   ·exact hz y hy⟩
theorem zn7:∀(fuel:Nat)(v:Value)(x:DataW H×List MemPlace),DataW.trod enc Tryz.prog w base spare held fuel 22 [v]=some x->WtOk Tryz.prog 22 x.1->∃(xs:List Va)(A:Option Addr)(c:Nat),v= .slice A xs.length c/\OVa w xs A c:=by
 intro fuel;intro v x h Fs;rcases DataW.trod_slice Tryz.underlying22 h with⟨h0,_⟩|⟨a,len,cap,elems,rest,n,hn,Gp,hx,_,Pz,G7,Ku,Fy,_⟩
 ·have h0:=(List.cons.inj h0).1;exact⟨[],none,0,h0,⟨by simp,⟨by decide,by decide⟩,by simp⟩,λx hx=>by simp at hx,by decide⟩
 ·have Gp:=(List.cons.inj Gp).1;subst Gp;rw[hx]at Fs;have Fs:=zcm Tryz.underlying22 Fs;have Gf:=Fs.1;rw[by_Va,List.length_map,List.length_map,Ku]at Gf;have key:∀i,i < len->zn6 w a.block (a.off+i*2):=by
   intro i hi;have GN:=zbh (b:=0) (by omega) c_Va Ku Fy (by omega);have h1:=Fy i hi;obtain⟨y,hy⟩:∃y,elems[i]?=some y:=⟨_,List.getElem?_eq_getElem (by omega)⟩;have Md:=Fs.2 y.1 (List.mem_map_of_mem (List.mem_of_getElem? hy));rw[hy]at h1;obtain⟨xh,hc,ht⟩:=Option.bind_eq_some_iff.1 h1;rw[c_Va]at hc;obtain⟨_,GC,Hg⟩:=World.cells?_some hc;obtain⟨ys,n',QX,L1,_,MD,hf⟩:=DataW.trod_struct Tryz.underlying77 ht;rw[L1]at Md;have g:∀j,j < 2->∃z,ys[j]?=some z:=λj hj=>⟨_,List.getElem?_eq_getElem (by rw[MD];exact hj)⟩;obtain⟨z0,Fg⟩:=g 0 (by omega);obtain⟨f0,e0,w0⟩:=zca Tryz.underlying9 zkN (off:=0) (by omega) ((hf 0 _ rfl).trans Fg);obtain⟨z1,Hw⟩:=g 1 (by omega);obtain⟨f1,e1,w1⟩:=zaN Tryz.underlying3 zfS (off:=1) (by omega) ((hf 1 _ rfl).trans Hw);have ad:∀j,(a.add (i*2)).add j=⟨a.block,a.off+i*2+j,none⟩:=zdr GN _;refine⟨f0,f1,?_,?_,w0,zaP w1⟩
   ·have:=(Hg 0 (by omega)).trans e0;rwa [ad]at this
   ·have:=(Hg 1 (by omega)).trans e1;rwa [ad]at this
  obtain⟨xs,hl,hx,hz⟩:=zkR (w:=w) (b:=a.block) len a.off (λi hi=>key i hi);have QY:len*24<=140737488351232:=by unfold reachBytes at Gf;have:len*24<=(len+rest.length)*24:=Nat.mul_le_mul_right _ (by omega);omega
  refine⟨xs,some a,cap,by rw[hl],⟨by rw[hl];exact Pz,⟨by simpa[maxLen]using G7,by rw[hl];omega⟩,λhp=>⟨a.block,a.off,?_,hx⟩⟩,hz,by rw[hl];exact QY⟩;have:=zbh (b:=0) (by omega) c_Va Ku Fy (by omega);cases a
  simp_all
theorem c_Ar:Tryz.prog.cellsOf 61=3:=by kernel_rfl
theorem c_sAr:Tryz.prog.cellsOf 23=1:=by kernel_rfl
theorem by_Ar:Tryz.prog.bytesOf 61=32:=by kernel_rfl
def OAr (w:World)(xs:List Arr)(A:Option Addr)(c:Nat):Prop:=SlR (λb o=>ArR w (Old w) False xs b o) xs.length 32 A c/\(∀x∈xs,x.nm.size<=9223372036854775807)/\xs.length*32<=140737488351232
def zn8 (w:World)(b o:Nat):Prop:=∃(nm:ByteArray)(size:Int)(at_:Int),w.cell? ⟨b,o,none⟩=some (.string nm)/\w.cell? ⟨b,o+1,none⟩=some (.int .i64 size)/\w.cell? ⟨b,o+2,none⟩=some (.int .i64 at_)/\nm.size<=9223372036854775807/\in64 size/\in64 at_
theorem zkS {b:Nat}:∀(len o:Nat),(∀i,i < len->zn8 w b (o+i*3))->∃xs:List Arr,xs.length=len/\ArR w (Old w) False xs b o/\∀x∈xs,x.nm.size<=9223372036854775807
 |0,_,_=>⟨[],rfl,trivial,λx hx=>by simp at hx⟩
 |len+1,o,h=>by
  obtain⟨xs,hl,hx,hz⟩:=zkS len (o+3) (λi hi=>by have:=h (i+1) (by omega);rwa [show o+(i+1)*3=o+3+i*3 from by omega]at this);obtain⟨nm,size,at_,h0,h1,h2,r0,r1,r2⟩:=h 0 (by omega);rw[Nat.zero_mul,Nat.add_zero]at h0 h1 h2;exact⟨(⟨nm,size,at_⟩:Arr)::xs,by simp[hl],⟨⟨(zb9 h0).1,λz=>z.elim,r1,r2,h0,h1,h2⟩,hx⟩,λy hy=>by
   rcases List.mem_cons.1 hy with rfl|hy
   ·exact r0
   ·exact hz y hy⟩
theorem zp5:∀(fuel:Nat)(v:Value)(x:DataW H×List MemPlace),DataW.trod enc Tryz.prog w base spare held fuel 23 [v]=some x->WtOk Tryz.prog 23 x.1->∃(xs:List Arr)(A:Option Addr)(c:Nat),v= .slice A xs.length c/\OAr w xs A c:=by
 intro fuel;intro v x h Fs;rcases DataW.trod_slice Tryz.underlying23 h with⟨h0,_⟩|⟨a,len,cap,elems,rest,n,hn,Gp,hx,_,Pz,G7,Ku,Fy,_⟩
 ·have h0:=(List.cons.inj h0).1;exact⟨[],none,0,h0,⟨by simp,⟨by decide,by decide⟩,by simp⟩,λx hx=>by simp at hx,by decide⟩
 ·have Gp:=(List.cons.inj Gp).1;subst Gp;rw[hx]at Fs;have Fs:=zcm Tryz.underlying23 Fs;have Gf:=Fs.1;rw[by_Ar,List.length_map,List.length_map,Ku]at Gf;have key:∀i,i < len->zn8 w a.block (a.off+i*3):=by
   intro i hi;have GN:=zbh (b:=0) (by omega) c_Ar Ku Fy (by omega);have h1:=Fy i hi;obtain⟨y,hy⟩:∃y,elems[i]?=some y:=⟨_,List.getElem?_eq_getElem (by omega)⟩;have Md:=Fs.2 y.1 (List.mem_map_of_mem (List.mem_of_getElem? hy));rw[hy]at h1;obtain⟨xh,hc,ht⟩:=Option.bind_eq_some_iff.1 h1;rw[c_Ar]at hc;obtain⟨_,GC,Hg⟩:=World.cells?_some hc;obtain⟨ys,n',QX,L1,_,MD,hf⟩:=DataW.trod_struct Tryz.underlying61 ht;rw[L1]at Md;have g:∀j,j < 3->∃z,ys[j]?=some z:=λj hj=>⟨_,List.getElem?_eq_getElem (by rw[MD];exact hj)⟩;obtain⟨z0,Fg⟩:=g 0 (by omega);obtain⟨f0,e0,w0⟩:=zca Tryz.underlying9 zkN (off:=0) (by omega) ((hf 0 _ rfl).trans Fg);obtain⟨z1,Hw⟩:=g 1 (by omega);obtain⟨f1,e1,w1⟩:=zaN Tryz.underlying3 zfS (off:=1) (by omega) ((hf 1 _ rfl).trans Hw);obtain⟨z2,G5⟩:=g 2 (by omega);obtain⟨f2,e2,w2⟩:=zaN Tryz.underlying3 zfS (off:=2) (by omega) ((hf 2 _ rfl).trans G5);have ad:∀j,(a.add (i*3)).add j=⟨a.block,a.off+i*3+j,none⟩:=zdr GN _;refine⟨f0,f1,f2,?_,?_,?_,w0,zaP w1,zaP w2⟩
   ·have:=(Hg 0 (by omega)).trans e0;rwa [ad]at this
   ·have:=(Hg 1 (by omega)).trans e1;rwa [ad]at this
   ·have:=(Hg 2 (by omega)).trans e2;rwa [ad]at this
  obtain⟨xs,hl,hx,hz⟩:=zkS (w:=w) (b:=a.block) len a.off (λi hi=>key i hi);have QY:len*32<=140737488351232:=by unfold reachBytes at Gf;have:len*32<=(len+rest.length)*32:=Nat.mul_le_mul_right _ (by omega);omega
  refine⟨xs,some a,cap,by rw[hl],⟨by rw[hl];exact Pz,⟨by simpa[maxLen]using G7,by rw[hl];omega⟩,λhp=>⟨a.block,a.off,?_,hx⟩⟩,hz,by rw[hl];exact QY⟩;have:=zbh (b:=0) (by omega) c_Ar Ku Fy (by omega);cases a
  simp_all
theorem c_Pr:Tryz.prog.cellsOf 63=4:=by kernel_rfl
theorem c_sPr:Tryz.prog.cellsOf 24=1:=by kernel_rfl
theorem by_Pr:Tryz.prog.bytesOf 63=72:=by kernel_rfl
def OPr (w:World)(xs:List Prc)(A:Option Addr)(c:Nat):Prop:=SlR (λb o=>PrR w (Old w) False xs b o) xs.length 72 A c/\(∀x∈xs,x.nm.size<=9223372036854775807/\(∀y∈x.params,y.nm.size<=9223372036854775807)/\szS x.body)/\xs.length*72<=140737488351232
def zn9 (w:World)(b o:Nat):Prop:=∃(nm:ByteArray)(params:List Va)(body:Sts)(at_:Int)(A1:Option Addr)(c1:Nat)(A2:Option Addr)(c2:Nat),w.cell? ⟨b,o,none⟩=some (.string nm)/\w.cell? ⟨b,o+1,none⟩=some (.slice A1 params.length c1)/\w.cell? ⟨b,o+2,none⟩=some (.slice A2 body.len c2)/\w.cell? ⟨b,o+3,none⟩=some (.int .i64 at_)/\OVa w params A1 c1/\OSt w body A2 c2/\nm.size<=9223372036854775807/\in64 at_
theorem zkT {b:Nat}:∀(len o:Nat),(∀i,i < len->zn9 w b (o+i*4))->∃xs:List Prc,xs.length=len/\PrR w (Old w) False xs b o/\∀x∈xs,x.nm.size<=9223372036854775807/\(∀y∈x.params,y.nm.size<=9223372036854775807)/\szS x.body
 |0,_,_=>⟨[],rfl,trivial,λx hx=>by simp at hx⟩
 |len+1,o,h=>by
  obtain⟨xs,hl,hx,hz⟩:=zkT len (o+4) (λi hi=>by have:=h (i+1) (by omega);rwa [show o+(i+1)*4=o+4+i*4 from by omega]at this);obtain⟨nm,params,body,at_,A1,c1,A2,c2,h0,h1,h2,h3,s1,s2,r0,r3⟩:=h 0 (by omega);rw[Nat.zero_mul,Nat.add_zero]at h0 h1 h2 h3;exact⟨(⟨nm,params,body,at_⟩:Prc)::xs,by simp[hl],⟨⟨(zb9 h0).1,λz=>z.elim,r3,h0,h3⟩,⟨A1,c1,h1,s1.1⟩,⟨A2,c2,h2,s2.1⟩,hx⟩,λy hy=>by
   rcases List.mem_cons.1 hy with rfl|hy
   ·exact⟨r0,s1.2.1,s2.2.1⟩
   ·exact hz y hy⟩
theorem zp6:∀(fuel:Nat)(v:Value)(x:DataW H×List MemPlace),DataW.trod enc Tryz.prog w base spare held fuel 24 [v]=some x->WtOk Tryz.prog 24 x.1->∃(xs:List Prc)(A:Option Addr)(c:Nat),v= .slice A xs.length c/\OPr w xs A c:=by
 intro fuel;intro v x h Fs;rcases DataW.trod_slice Tryz.underlying24 h with⟨h0,_⟩|⟨a,len,cap,elems,rest,n,hn,Gp,hx,_,Pz,G7,Ku,Fy,_⟩
 ·have h0:=(List.cons.inj h0).1;exact⟨[],none,0,h0,⟨by simp,⟨by decide,by decide⟩,by simp⟩,λx hx=>by simp at hx,by decide⟩
 ·have Gp:=(List.cons.inj Gp).1;subst Gp;rw[hx]at Fs;have Fs:=zcm Tryz.underlying24 Fs;have Gf:=Fs.1;rw[by_Pr,List.length_map,List.length_map,Ku]at Gf;have key:∀i,i < len->zn9 w a.block (a.off+i*4):=by
   intro i hi;have GN:=zbh (b:=0) (by omega) c_Pr Ku Fy (by omega);have h1:=Fy i hi;obtain⟨y,hy⟩:∃y,elems[i]?=some y:=⟨_,List.getElem?_eq_getElem (by omega)⟩;have Md:=Fs.2 y.1 (List.mem_map_of_mem (List.mem_of_getElem? hy));rw[hy]at h1;obtain⟨xh,hc,ht⟩:=Option.bind_eq_some_iff.1 h1;rw[c_Pr]at hc;obtain⟨_,GC,Hg⟩:=World.cells?_some hc;obtain⟨ys,n',QX,L1,_,MD,hf⟩:=DataW.trod_struct Tryz.underlying63 ht;rw[L1]at Md;have g:∀j,j < 4->∃z,ys[j]?=some z:=λj hj=>⟨_,List.getElem?_eq_getElem (by rw[MD];exact hj)⟩;obtain⟨z0,Fg⟩:=g 0 (by omega);obtain⟨f0,e0,w0⟩:=zca Tryz.underlying9 zkN (off:=0) (by omega) ((hf 0 _ rfl).trans Fg);obtain⟨z1,Hw⟩:=g 1 (by omega);obtain⟨v1,e1,t1⟩:=zaC zp4 (off:=1) (by omega) ((hf 1 _ rfl).trans Hw);have uK:WtOk Tryz.prog 22 z1.1:=zaB Tryz.underlying63 Md (j:=1) rfl Hw;obtain⟨f1,A1,c1,rfl,s1⟩:=zn7 n' v1 z1 t1 uK;obtain⟨z2,G5⟩:=g 2 (by omega);obtain⟨v2,e2,t2⟩:=zaC zna (off:=2) (by omega) ((hf 2 _ rfl).trans G5);have x9:WtOk Tryz.prog 25 z2.1:=zaB Tryz.underlying63 Md (j:=2) rfl G5;obtain⟨f2,A2,c2,rfl,s2⟩:=zn5 n' v2 z2 t2 x9;obtain⟨z3,PV⟩:=g 3 (by omega);obtain⟨f3,e3,w3⟩:=zaN Tryz.underlying3 zfS (off:=3) (by omega) ((hf 3 _ rfl).trans PV);have ad:∀j,(a.add (i*4)).add j=⟨a.block,a.off+i*4+j,none⟩:=zdr GN _;refine⟨f0,f1,f2,f3,A1,c1,A2,c2,?_,?_,?_,?_,s1,s2,w0,zaP w3⟩
   ·have:=(Hg 0 (by omega)).trans e0;rwa [ad]at this
   ·have:=(Hg 1 (by omega)).trans e1;rwa [ad]at this
   ·have:=(Hg 2 (by omega)).trans e2;rwa [ad]at this
   ·have:=(Hg 3 (by omega)).trans e3;rwa [ad]at this
  obtain⟨xs,hl,hx,hz⟩:=zkT (w:=w) (b:=a.block) len a.off (λi hi=>key i hi);have QY:len*72<=140737488351232:=by unfold reachBytes at Gf;have:len*72<=(len+rest.length)*72:=Nat.mul_le_mul_right _ (by omega);omega
  refine⟨xs,some a,cap,by rw[hl],⟨by rw[hl];exact Pz,⟨by simpa[maxLen]using G7,by rw[hl];omega⟩,λhp=>⟨a.block,a.off,?_,hx⟩⟩,hz,by rw[hl];exact QY⟩;have:=zbh (b:=0) (by omega) c_Pr Ku Fy (by omega);cases a
  simp_all
structure BdT (t:Tre):Prop where
 vars:t.vars.length*24<=140737488351232
 arrays:t.arrays.length*32<=140737488351232
 procs:t.procs.length*72<=140737488351232
 main:t.main.len*128<=140737488351232
theorem zkU {r:Reach}{b0:Nat}{v:Value}{d:DataW H}{p:List MemPlace}(hv:Value.okWide Tryz.prog w r b0 27 v)(h:DataW.Trod enc Tryz.prog w base spare held 27 v d p)(Fs:WtOk Tryz.prog 27 d):
  ∃(t:Tre)(Av Aa Ap Am:Option Addr)(cv ca cp cm:Nat),v=trV t Av Aa Ap Am cv ca cp cm/\TrR w (Old w) False t Av Aa Ap Am cv ca cp cm/\SzT t/\BdT t:=by
 have hs:=Tryz.underlying27;obtain⟨cs,rfl,Hx⟩:=okWide_struct hs hv;obtain⟨l⟩:=cs
 match l,Hx.trans (show Tryz.prog.cellsOf 27=4 by kernel_rfl)with
 | [c0,c1,c2,c3],_=>
  obtain⟨fuel,hf⟩:=h;obtain⟨xs,n,_,hx,_,hlen,hg⟩:=DataW.trod_struct hs hf
  match xs,hlen with
  | [y0,y1,y2,y3],_=>
   have hd:=(Prod.mk.inj hx).1;rw[hd]at Fs;obtain⟨v0,e0,t0⟩:=zaC (cs:= [c0,c1,c2,c3]) zp4 (off:=0) (by simp) (hg 0 _ rfl);obtain⟨v1,e1,t1⟩:=zaC (cs:= [c0,c1,c2,c3]) c_sAr (off:=1) (by simp) (hg 1 _ rfl);obtain⟨v2,e2,t2⟩:=zaC (cs:= [c0,c1,c2,c3]) c_sPr (off:=2) (by simp) (hg 2 _ rfl);obtain⟨v3,e3,t3⟩:=zaC (cs:= [c0,c1,c2,c3]) zna (off:=3) (by simp) (hg 3 _ rfl);simp only[List.getElem?_cons_zero,List.getElem?_cons_succ,Option.some.injEq]at e0 e1 e2 e3;subst e0 e1 e2 e3;obtain⟨vs,Av,cv,rfl,sv⟩:=zn7 n c0 y0 t0 (zaB hs Fs (j:=0) rfl rfl);obtain⟨xs,Aa,ca,rfl,sa⟩:=zp5 n c1 y1 t1 (zaB hs Fs (j:=1) rfl rfl);obtain⟨ps,Ap,cp,rfl,sp⟩:=zp6 n c2 y2 t2 (zaB hs Fs (j:=2) rfl rfl);obtain⟨ss,Am,cm,rfl,sm⟩:=zn5 n c3 y3 t3 (zaB hs Fs (j:=3) rfl rfl);exact⟨⟨vs,xs,ps,ss⟩,Av,Aa,Ap,Am,cv,ca,cp,cm,rfl,⟨sv.1,sa.1,sp.1,sm.1⟩,⟨sv.2.1,sa.2.1,sp.2.1,sm.2.1⟩,⟨sv.2.2,sa.2.2,sp.2.2,sm.2.2⟩⟩
end
