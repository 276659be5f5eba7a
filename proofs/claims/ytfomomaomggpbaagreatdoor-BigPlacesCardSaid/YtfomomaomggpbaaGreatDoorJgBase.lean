/- Small. -/
import Derived.Deep.OwnRows
import Derived.BigQuiet
import Derived.Lib.SmallJoins
import Derived.Test.YtfomomaomggpbaaGreatDoorRows
import Derived.Maps.RangeWalk
set_option linter.all false
namespace Go.Proofs.YtfomomaomggpbaaGreatDoor
open Go.RowKit Go.WideShapes Go.ChangeShapes
section
variable {H:Type} {enc:TypeId×Value->H} {P:Program}
theorem zfD {f:Func}{s:ChangeSpec}{apart fresh handsOn again:Bool}{W W':World}{args:Array Value}{v:Value}{ds gs:List (DataW H)}{before pa pv:List MemPlace}
  (hW:DataW.Whole enc P f.params.toList s.vars apart W args.toList ds gs before)
  (VK:∀(b:Nat)(sp:Nat->Bool)(hd:Bool),DataW.TrodAll enc P W' b sp hd f.resultTypes.toList (v.resultList f.resultTypes.size) (s.fn H (ds++gs)).results [])
  (SN:∀sp:Nat->Bool,(∀p∈before,sp p.block=true)->DataW.TrodAll enc P W' 0 sp true f.params.toList args.toList (s.fn H (ds++gs)).args pa)
  (SO:∀sp:Nat->Bool,(∀p∈before,sp p.block=true)->DataW.TrodVars enc P W' sp s.vars (s.fn H (ds++gs)).vars pv)
  (JG:before=pa++pv) (hb:Below W.heap.size W W')
  (FC:∀(j:Nat)(t:TypeId)(r:Value),f.resultTypes[j]?=some t->(v.resultList f.resultTypes.size)[j]?=some r->Value.okWide P W' .any 0 t r):
  s.post enc P f apart fresh handsOn again W args v W':=by
 have Hk:∀p∈before,p.block < W.heap.size:=λp hp=>hW.lt p hp;have hold:∀p∈before,(λb=>decide (b < W.heap.size)) p.block=true:=λp hp=>by simpa using Hk p hp
 refine⟨ds,gs,before, [],pa,pv,hW,VK _ _ _,SN _ hold,SO _ hold,World.keptBut_mono (λp hp=>⟨hp,?_⟩) (hb.frame (· ∈before)),λ_=>?_⟩
 ·rw[JG,List.mem_append]at hp;exact Or.inr hp
 ·obtain⟨_,_,_,_,_,hz,hn⟩:=hW;refine⟨FC,_,_,([]++pa)++pv,⟨[]++pa,pv,trodAll_append (SN _ (λ_ _=>rfl)) (VK _ _ _),SO _ (λ_ _=>rfl),rfl,?_,?_⟩,?_⟩
  ·intro b off hp;have MG:MemPlace.cell b off∈before:=by rw[JG];simpa using hp
   rw[hb.frozen (Hk _ MG)];exact hz b off MG
  ·intro ha;have:=hn ha;rw[JG]at this;simpa using this
  ·intro p hp _;rw[JG];simpa using hp
end
theorem zcI {a w:World}(h:Below a.heap.size a w)(row:Option Nat):a.grownBy w row:=⟨h.os,h.tape,h.output,h.size,λi hi _=>h.block i hi⟩
theorem zos (w:World)(cs:Array Value)(t:TypeId)(i:Nat):(w.alloc (.cells cs t)).cell? ⟨w.heap.size,i,none⟩=cs[i]?:=by
 simp
theorem makeF {P:Program}(fn:Fn)(first cap:Array Value)(w:World):(Instr.makeFunc fn first cap).run P w= .ok (.func fn first cap) w:=rfl
structure HeldW (S:World->Prop) where
 w:World
 h:S w
theorem zbA {P:Program}{id:Nat}{Q:Exit->Act->World->Prop}{a:Act}{w:World}{l:List Oper}(S:World->Prop)(hS:S w.drew)(hm:P.follows .mixedOrders =true)(hB:Region.lexB .any l.toArray=true)
  (h:wpQuiet P l.toArray (λw'=>∃z:HeldW S,w'=z.w) (λa'=>∀w',(∃z:HeldW S,w'=z.w)->Q .normal a' w') l a):(Code.region id l.toArray true).wp P Q a w:=
 wp_region_quiet (C:=λw'=>∃z:HeldW S,w'=z.w) hm hB ⟨⟨w.drew,hS⟩,rfl⟩ (by simpa using h)
theorem zdY {P:Program}{f:FuncId}{args:Array Value}{S:World->Prop}{z:HeldW S}{v:Value}(h:∀W,S W->Calls P f args W λe w'=>e= .returned v/\S w'):
  Calls P f args z.w λe w''=>e= .returned v/\∃z':HeldW S,w''=z'.w:=
 (h z.w z.h).mono λ_ w'' ⟨he,hs⟩=>⟨he,⟨w'',hs⟩,rfl⟩
theorem zdO {P:Program}{w w':World}{n:String}{cs:Array Value}(h:Below w.heap.size w w')(hv:w.var? P n=some cs):w'.var? P n=some cs:=by
 unfold World.var? at hv ⊢;cases hg:P.globalNamed n with
 |none=>rw[hg]at hv;cases hv
 |some g=>
  rw[hg]at hv;simp only[Option.bind_some]at hv ⊢;have Hk:g < w.heap.size:=by
   rcases Nat.lt_or_ge g w.heap.size with Hk|G9
   ·exact Hk
   ·rw[Array.getElem?_eq_none G9]at hv;cases hv
  rw[h.block g Hk];exact hv
theorem zbx {B:Nat}{a w:World}(h:Below B a w){g:Nat}(hg:B<=g)(cs:Array Value):Below B a (w.setRow g cs):=
 ⟨h.os,h.tape,h.output,by rw[setRow_size];exact h.size,λi hi=>(setRow_other _ _ i _ (by omega)).trans (h.block i hi)⟩
open Go.RowKit Go.Maps
def zdI (v:Value):Option (DataW Value×List MemPlace):=some (.held v, [])
theorem strKey:Keyed Tryz.prog 9:=string_keyed Tryz.underlying9
theorem keyS {t:List UInt8}(h:t.length<=maxLen):keyOf Tryz.prog 9 (.string ⟨t.toArray⟩)=some (.string t):=by
 have:=WideMaps.keyOf_string_mk (P:=Tryz.prog) Tryz.underlying9 (s:=⟨t.toArray⟩) (by simpa[ByteArray.size]using h);simpa using this
