/- Plain parsing: what parse.Parse makes of tokens, of which the last one is where the text ends. -/
import Derived.Deep.RegionWith
import Derived.Test.YtmopichdofgndaaGreatDoorJgLr
import Derived.Lib.AtoiAll
import Derived.RegionTactic
import Derived.NoCompiler
import Derived.RegionDies
import Derived.Deep.RegionHeld2
import Derived.Test.YtmopichdofgndaaGreatDoorJnRw
set_option linter.all false
namespace Go.Proofs.YtmopichdofgndaaGreatDoor
open Go.RowKit
def noB:ByteArray:=⟨#[]⟩
def txt (t:Tk):ByteArray:=⟨t.text.toArray⟩
open Go.RowKit Go.Shelf
@[go_sem] theorem fieldVa0 (a b:Value) (W:World):(Instr.field 43 (.agg #[a,b]) 0).run Tryz.prog W= .ok a W:=by kernel_rfl
def isT (t:Tk)(s:List UInt8):Prop:=t.text=s/\t.kind≠2
def isN (t:Tk):Prop:=t.kind=1/\zak t.text=true
def opT (k:Int):List UInt8:=if k=5 then [43]else if k=6 then [45]else if k=7 then [42]else if k=8 then [47]else if k=9 then [37]else if k=10 then [60,60]else [62,62]
def opL (k:Int):Nat:=if k<=6 then 2 else if k<=9 then 3 else 1
def cmT (k:Int):List UInt8:=if k=3 then [60]else if k=4 then [60,61]else if k=5 then [62]else if k=6 then [62,61]else if k=7 then [61,61]else [33,61]
inductive ExG:Nat->Nat->List Tk->Ex->Prop where
 |num (d n:Nat) (t:Tk):t.kind=2->ExG d n [t] ⟨1,noB,decV t.text,.nil,t.at_⟩
 |var (d n:Nat) (t:Tk):isN t->ExG d n [t] ⟨2,txt t,0,.nil,t.at_⟩
 |load (d n:Nat) (t b e:Tk) (c:List Tk) (x:Ex):isN t->isT b [91]->ExG d 1 c x->isT e [93]->ExG (d+1) n (t::b::(c++ [e])) ⟨3,txt t,0,x.cons .nil,t.at_⟩
 |neg (d n:Nat) (t:Tk) (c:List Tk) (x:Ex):isT t [45]->ExG d 4 c x->ExG (d+1) n (t::c) ⟨4,noB,0,x.cons .nil,t.at_⟩
 |par (d n:Nat) (t e:Tk) (c:List Tk) (x:Ex):isT t [40]->ExG d 1 c x->isT e [41]->ExG (d+1) n (t::(c++ [e])) x
 |two (d n:Nat) (k:Int) (t:Tk) (a b:List Tk) (x y:Ex):5<=k->k<=11->n<=opL k->ExG d (opL k) a x->isT t (opT k)->ExG d (opL k+1) b y->ExG d n (a++t::b) ⟨k,noB,0,x.cons (y.cons .nil),t.at_⟩
inductive CoG:Nat->Nat->List Tk->Cn->Prop where
 |yes (d n:Nat) (t:Tk):isT t [116,114,117,101]->CoG d n [t] ⟨1,.nil,.nil,t.at_⟩
 |no (d n:Nat) (t:Tk):isT t [102,97,108,115,101]->CoG d n [t] ⟨2,.nil,.nil,t.at_⟩
 |not (d n:Nat) (t:Tk) (c:List Tk) (x:Cn):isT t [33]->CoG d 3 c x->CoG (d+1) n (t::c) ⟨9,.nil,x.cons .nil,t.at_⟩
 |br (d n:Nat) (t e:Tk) (c:List Tk) (x:Cn):isT t [91]->CoG d 1 c x->isT e [93]->CoG (d+1) n (t::(c++ [e])) x
 |cmp (d n:Nat) (k:Int) (t:Tk) (a b:List Tk) (x y:Ex):3<=k->k<=8->ExG d 1 a x->isT t (cmT k)->ExG d 1 b y->CoG d n (a++t::b) ⟨k,x.cons (y.cons .nil),.nil,t.at_⟩
 |and (d n:Nat) (t:Tk) (a b:List Tk) (x y:Cn):n<=2->CoG d 2 a x->isT t [38,38]->CoG d 3 b y->CoG d n (a++t::b) ⟨10,.nil,x.cons (y.cons .nil),t.at_⟩
 |or (d n:Nat) (t:Tk) (a b:List Tk) (x y:Cn):n<=1->CoG d 1 a x->isT t [124,124]->CoG d 2 b y->CoG d n (a++t::b) ⟨11,.nil,x.cons (y.cons .nil),t.at_⟩
inductive SomeG {α:Type} (R:List Tk->α->Prop):List Tk->List α->Prop where
 |one (c:List Tk) (x:α):R c x->SomeG R c [x]
 |more (c:List Tk) (x:α) (t:Tk) (d:List Tk) (xs:List α):R c x->isT t [44]->SomeG R d xs->SomeG R (c++t::d) (x::xs)
def ListG {α:Type}(R:List Tk->α->Prop)(c:List Tk)(xs:List α):Prop:=(c= []/\xs= [])\/SomeG R c xs
def AskG (n:Nat)(c:List Tk)(cs:Cds):Prop:=∃t e d x,c=t::(d++ [e])/\isT t [40]/\CoG n 1 d x/\isT e [41]/\cs=x.cons .nil
mutual
inductive StG:Nat->List Tk->St->Prop where
 |skip (m:Nat) (t e:Tk):t.text= [115,107,105,112]->isT e [59]->StG m [t,e] ⟨1,noB,.nil,.nil,.nil,.nil,t.at_⟩
 |input (m:Nat) (t n e:Tk):t.text= [105,110,112,117,116]->isN n->isT e [59]->StG m [t,n,e] ⟨4,txt n,.nil,.nil,.nil,.nil,t.at_⟩
 |assume (m:Nat) (t e:Tk) (c:List Tk) (cs:Cds):t.text= [97,115,115,117,109,101]->AskG m c cs->isT e [59]->StG m (t::(c++ [e])) ⟨5,noB,.nil,cs,.nil,.nil,t.at_⟩
 |assert (m:Nat) (t e:Tk) (c:List Tk) (cs:Cds):t.text= [97,115,115,101,114,116]->AskG m c cs->isT e [59]->StG m (t::(c++ [e])) ⟨6,noB,.nil,cs,.nil,.nil,t.at_⟩
 |ifs (m:Nat) (t:Tk) (c b:List Tk) (cs:Cds) (xs:List St):t.text= [105,102]->AskG m c cs->BlG m b xs->StG m (t::(c++b)) ⟨7,noB,.nil,cs,zao xs,.nil,t.at_⟩
 |ifelse (m:Nat) (t l:Tk) (c b d:List Tk) (cs:Cds) (xs ys:List St):t.text= [105,102]->AskG m c cs->BlG m b xs->isT l [101,108,115,101]->BlG m d ys->StG m (t::(c++(b++l::d))) ⟨7,noB,.nil,cs,zao xs,zao ys,t.at_⟩
 |while (m:Nat) (t:Tk) (c b:List Tk) (cs:Cds) (xs:List St):t.text= [119,104,105,108,101]->AskG m c cs->BlG m b xs->StG m (t::(c++b)) ⟨8,noB,.nil,cs,zao xs,.nil,t.at_⟩
 |call (m:Nat) (t n o e s:Tk) (c:List Tk) (xs:List Ex):t.text= [99,97,108,108]->isN n->isT o [40]->ListG (ExG m 1) c xs->isT e [41]->isT s [59]->StG m (t::n::o::(c++ [e,s])) ⟨9,txt n,zd9 xs,.nil,.nil,.nil,t.at_⟩
 |store (m:Nat) (n b e q s:Tk) (c d:List Tk) (x y:Ex):isN n->isT b [91]->ExG m 1 c x->isT e [93]->isT q [61]->ExG (m+1) 1 d y->isT s [59]->StG (m+1) (n::b::(c++e::q::(d++ [s]))) ⟨3,txt n,x.cons (y.cons .nil),.nil,.nil,.nil,n.at_⟩
 |set (m:Nat) (n q s:Tk) (c:List Tk) (x:Ex):isN n->isT q [61]->ExG m 1 c x->isT s [59]->StG m (n::q::(c++ [s])) ⟨2,txt n,x.cons .nil,.nil,.nil,.nil,n.at_⟩
inductive BlG:Nat->List Tk->List St->Prop where
 |mk (m:Nat) (t e:Tk) (c:List Tk) (xs:List St):isT t [123]->SsG m c xs->isT e [125]->BlG (m+1) (t::(c++ [e])) xs
inductive SsG:Nat->List Tk->List St->Prop where
 |nil (m:Nat):SsG m [] []
 |cons (m:Nat) (a b:List Tk) (x:St) (xs:List St):StG m a x->SsG m b xs->SsG m (a++b) (x::xs)
end
open Go.RowKit Go.Maps
def zfK (v:Value):Option (DataW Value×List MemPlace):=some (.held v, [])
theorem strKey:Keyed Tryz.prog 9:=string_keyed Tryz.underlying9
