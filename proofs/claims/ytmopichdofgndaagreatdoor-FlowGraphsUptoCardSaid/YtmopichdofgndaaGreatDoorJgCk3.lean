/- Small lemmas without a program, copied from the guide's page of small lemmas: the row's last step, quiet regions, frames behind draws, four results. -/
import Derived.ChangeSame
import Derived.Deep.QuietTactic
import Derived.Deep.OwnRows
import Derived.BigQuiet
import Derived.Test.YtmopichdofgndaaGreatDoorRows
import Derived.Test.YtmopichdofgndaaGreatDoorJnData
import Derived.Lib.Hide
import Derived.WalkSpells
import Derived.WalkLawsBesides
import Derived.Laws.EntriesVeiled
import Derived.Shelf.Abstract
import Derived.Outline
import Derived.BigRegion
import Derived.Deep.DeepCutAuto
import Derived.Maps.OwnSet
import Derived.Maps.OwnOps
import Derived.Maps.RangeWalk
import Derived.Deep.AppendLies
import Derived.Deep.RegionHeld3
import Derived.Deep.DrawnRows
import Derived.StillTailTactics
set_option linter.all false
namespace Go.Proofs.YtmopichdofgndaaGreatDoor
open Go.RowKit Go.WideShapes Go.ChangeShapes
section
variable {H:Type} {enc:TypeId×Value->H} {P:Program}
theorem zeQ {f:Func}{s:ChangeSpec}{apart fresh handsOn again:Bool}{W W':World}{args:Array Value}{v:Value}{ds gs:List (DataW H)}{before pa pv:List MemPlace}
  (hW:DataW.Whole enc P f.params.toList s.vars apart W args.toList ds gs before)
  (XZ:∀(b:Nat)(sp:Nat->Bool)(hd:Bool),DataW.TrodAll enc P W' b sp hd f.resultTypes.toList (v.resultList f.resultTypes.size) (s.fn H (ds++gs)).results [])
  (Nx:∀sp:Nat->Bool,(∀p∈before,sp p.block=true)->DataW.TrodAll enc P W' 0 sp true f.params.toList args.toList (s.fn H (ds++gs)).args pa)
  (Qc:∀sp:Nat->Bool,(∀p∈before,sp p.block=true)->DataW.TrodVars enc P W' sp s.vars (s.fn H (ds++gs)).vars pv)
  (Qd:before=pa++pv) (hb:Below W.heap.size W W')
  (G9:∀(j:Nat)(t:TypeId)(r:Value),f.resultTypes[j]?=some t->(v.resultList f.resultTypes.size)[j]?=some r->Value.okWide P W' .any 0 t r):
  s.post enc P f apart fresh handsOn again W args v W':=by
 have Hr:∀p∈before,p.block < W.heap.size:=λp hp=>hW.lt p hp;have hold:∀p∈before,(λb=>decide (b < W.heap.size)) p.block=true:=λp hp=>by simpa using Hr p hp
 refine⟨ds,gs,before, [],pa,pv,hW,XZ _ _ _,Nx _ hold,Qc _ hold,World.keptBut_mono (λp hp=>⟨hp,?_⟩) (hb.frame (· ∈before)),λ_=>?_⟩
 ·rw[Qd,List.mem_append]at hp;exact Or.inr hp
 ·obtain⟨_,_,_,_,_,hz,hn⟩:=hW;refine⟨G9,_,_,([]++pa)++pv,⟨[]++pa,pv,trodAll_append (Nx _ (λ_ _=>rfl)) (XZ _ _ _),Qc _ (λ_ _=>rfl),rfl,?_,?_⟩,?_⟩
  ·intro b off hp;have Gb:MemPlace.cell b off∈before:=by rw[Qd];simpa using hp
   rw[hb.frozen (Hr _ Gb)];exact hz b off Gb
  ·intro ha;have:=hn ha;rw[Qd]at this;simpa using this
  ·intro p hp _;rw[Qd];simpa using hp
end
theorem zau {B:Nat}{a w:World}(h:Below B a w)(n:Nat):Below B a (w.drewN n):=⟨h.os,h.tape,h.output,h.size,h.block⟩
theorem ziE (w:World)(cs:Array Value)(t:TypeId)(i:Nat):(w.alloc (.cells cs t)).cell? ⟨w.heap.size,i,none⟩=cs[i]?:=by
 simp
theorem zlS (w:World)(c0 c1:Array Value)(t0 t1:TypeId)(i:Nat):
  ((w.alloc (.cells c0 t0)).alloc (.cells c1 t1)).cell? ⟨w.heap.size,i,none⟩=c0[i]?/\((w.alloc (.cells c0 t0)).alloc (.cells c1 t1)).cell? ⟨w.heap.size+1,i,none⟩=c1[i]?:=
 ⟨(World.cell?_alloc_lt _ _ _ (by simp)).trans (ziE _ _ _ _),by simp⟩
theorem makeF {P:Program}(fn:Fn)(first cap:Array Value)(w:World):(Instr.makeFunc fn first cap).run P w= .ok (.func fn first cap) w:=rfl
open Go.RowKit Go.Shelf
structure Ed where
 from_:Int
 to_:Int
 kind:Int
 n:Int
 cmp:Int
 args:Exs
 at_:Int
def Ed.ok (e:Ed):Prop:=in64 e.from_/\in64 e.to_/\in8 e.kind/\in64 e.n/\in8 e.cmp/\in64 e.at_
def EdAt (w:World)(B:Nat):List Ed->Nat->Nat->Prop
 | [],_,_=>True
 |e::r,b,o=>
  b < B/\w.cell? ⟨b,o,none⟩=some (.int .i64 e.from_)/\w.cell? ⟨b,o+1,none⟩=some (.int .i64 e.to_)/\w.cell? ⟨b,o+2,none⟩=some (.int .u8 e.kind)/\w.cell? ⟨b,o+3,none⟩=some (.int .i64 e.n)/\
   w.cell? ⟨b,o+4,none⟩=some (.int .u8 e.cmp)/\(∃A c,w.cell? ⟨b,o+5,none⟩=some (.slice A e.args.len c)/\ExSl w B e.args A c)/\w.cell? ⟨b,o+6,none⟩=some (.int .i64 e.at_)/\e.ok/\EdAt w B r b (o+7)
def EdSl (w:World)(B:Nat)(l:List Ed)(A:Option Addr)(c:Nat):Prop:=
 l.length<=c/\c<=9223372036854775807/\(0 < l.length->∃b o,A=some ⟨b,o,none⟩/\EdAt w B l b o)
theorem EdAt.keep {w w':World}{B:Nat}(h:Same B w w'):∀ {l:List Ed} {b o:Nat},EdAt w B l b o->EdAt w' B l b o
 | [],_,_,_=>trivial
 |e::r,b,o,hx=>by
  obtain⟨hb,h0,h1,h2,h3,h4,⟨A,c,h5,hs⟩,h6,G9,hr⟩:=hx;exact⟨hb,(h _ hb).trans h0,(h _ hb).trans h1,(h _ hb).trans h2,(h _ hb).trans h3,(h _ hb).trans h4,⟨A,c,(h _ hb).trans h5,hs.keep h⟩,(h _ hb).trans h6,G9,EdAt.keep h hr⟩
theorem EdAt.drop {w:World}{B:Nat}:∀(k:Nat) {l:List Ed} {b o:Nat},EdAt w B l b o->EdAt w B (l.drop k) b (o+k*7)
 |0,_,_,_,h=>by simpa using h
 |k+1, [],_,_,_=>by simp[EdAt]
 |k+1,_::r,b,o,h=>by
  have:=EdAt.drop k h.2.2.2.2.2.2.2.2.2;rw[show o+(k+1)*7=o+7+k*7 from by omega];simpa using this
theorem EdAt.at_ {w:World}{B:Nat}{l:List Ed}{b o:Nat}(h:EdAt w B l b o){i:Nat}{e:Ed}(he:l[i]?=some e):
  b < B/\w.cell? ⟨b,o+i*7,none⟩=some (.int .i64 e.from_)/\w.cell? ⟨b,o+i*7+1,none⟩=some (.int .i64 e.to_)/\w.cell? ⟨b,o+i*7+2,none⟩=some (.int .u8 e.kind)/\w.cell? ⟨b,o+i*7+3,none⟩=some (.int .i64 e.n)/\
   w.cell? ⟨b,o+i*7+4,none⟩=some (.int .u8 e.cmp)/\(∃A c,w.cell? ⟨b,o+i*7+5,none⟩=some (.slice A e.args.len c)/\ExSl w B e.args A c)/\w.cell? ⟨b,o+i*7+6,none⟩=some (.int .i64 e.at_)/\e.ok:=by
 have:=h.drop i;have hd:l.drop i=e::l.drop (i+1):=by
  obtain⟨hi,rfl⟩:=List.getElem?_eq_some_iff.1 he;exact List.drop_eq_getElem_cons hi
 rw[hd]at this;obtain⟨hb,h0,h1,h2,h3,h4,h5,h6,G9,_⟩:=this;exact⟨hb,h0,h1,h2,h3,h4,h5,h6,G9⟩
/-! numbers -/
def IsAt (w:World)(B:Nat)(l:List Int)(b o:Nat):Prop:=b < B/\∀(i:Nat)(n:Int),l[i]?=some n->w.cell? ⟨b,o+i,none⟩=some (.int .i64 n)/\in64 n
def IsSl (w:World)(B:Nat)(l:List Int)(A:Option Addr)(c:Nat):Prop:=
 l.length<=c/\c<=9223372036854775807/\(0 < l.length->∃b o,A=some ⟨b,o,none⟩/\IsAt w B l b o)
theorem IsAt.keep {w w':World}{B:Nat}(h:Same B w w'){l:List Int}{b o:Nat}(hx:IsAt w B l b o):IsAt w' B l b o:=
 ⟨hx.1,λi n hi=>⟨(h _ hx.1).trans (hx.2 i n hi).1,(hx.2 i n hi).2⟩⟩
theorem IsSl.keep {w w':World}{B:Nat}{l:List Int}{A:Option Addr}{c:Nat}(h:Same B w w')(hx:IsSl w B l A c):IsSl w' B l A c:=
 ⟨hx.1,hx.2.1,λhp=>by obtain⟨b,o,e,hh⟩:=hx.2.2 hp;exact⟨b,o,e,hh.keep h⟩⟩
def Exs.all2 (q:Int->ByteArray->Int->Exs->Int->Int->ByteArray->Int->Exs->Int->Bool):Exs->Exs->Bool
 | .nil,.nil =>true
 | .cons k nm n args at_ rest,.cons k' nm' n' args' at' rest'=>q k nm n args at_ k' nm' n' args' at'&&Exs.all2 q rest rest'
 |_,_=>false
def zbf:Exs->Exs->Bool
 | .nil,.nil =>true
 | .cons k nm n args at_ rest,.cons k' nm' n' args' at' rest'=>(k==k')&&(n==n')&&(nm.toList==nm'.toList)&&(at_==at')&&zbf args args'&&zbf rest rest'
 |_,_=>false
def grV (vars:Int)(Aa:Option Addr)(na ca:Nat)(nodes start last:Int)(Ae:Option Addr)(ne ce:Nat):Value:= .agg #[.int .i64 vars,.slice Aa na ca,.int .i64 nodes,.int .i64 start,.int .i64 last,.slice Ae ne ce]
def argsD (k:Int):Int:=if k=3 then 1 else if k=4 then 2 else if k=6 then 2 else 0
def mostD (vars arrs k:Int):Int:=if k=3 then vars else if k=5 then vars else if k=4 then arrs else 1
def headD (vars arrs k n:Int)(l:Nat):Bool:=decide (1<=k)&&decide (k<=8)&&(decide (0<=n)&&decide (n < mostD vars arrs k))&&((l:Int)==argsD k)
open Go.RowKit Go.Shelf Go.Maps
attribute [local go_sem ↓] Go.wp_at_zero Go.wp_at_succ
structure Gr where
 vars:Int
 arrays:List Int
 nodes:Int
 start:Int
 last:Int
 edges:List Ed
def Gr.ok (g:Gr):Prop:=in64 g.vars/\in64 g.nodes/\in64 g.start/\in64 g.last
structure GrSl (w:World)(B:Nat)(g:Gr)(Aa:Option Addr)(ca:Nat)(Ae:Option Addr)(ce:Nat):Prop where
 arrays:IsSl w B g.arrays Aa ca
 edges:EdSl w B g.edges Ae ce
