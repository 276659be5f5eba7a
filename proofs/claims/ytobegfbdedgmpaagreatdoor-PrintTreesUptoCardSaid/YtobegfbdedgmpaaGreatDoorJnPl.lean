/-
  Plain parsing: places turn nothing but places. No program.
-/
import Derived.Test.YtobegfbdedgmpaaGreatDoorJnLoc
import Derived.Test.YtobegfbdedgmpaaGreatDoorJnPq
import Derived.Test.YtobegfbdedgmpaaGreatDoorJnLex
import Derived.Test.YtobegfbdedgmpaaGreatDoorJnPs
import Derived.Test.YtobegfbdedgmpaaGreatDoorJnGrA
import Derived.Test.YtobegfbdedgmpaaGreatDoorJnCkC
set_option linter.unusedVariables false
set_option linter.unusedSimpArgs false
namespace Go.Proofs.YtobegfbdedgmpaaGreatDoor
open Go.RowKit Go.Shelf

def Tk.bare (t:Tk):Tk:=⟨t.kind,t.text,0⟩
def Ex.bare (x:Ex):Ex:=⟨x.k,x.nm,x.n,x.args.bare,0⟩
def Cn.bare (x:Cn):Cn:=⟨x.k,x.args.bare,x.of_.bare,0⟩
def St.bare (x:St):St:=⟨x.k,x.nm,x.args.bare,x.cond.bare,x.body.bare,x.els.bare,0⟩
def PR.bare {α:Type} (m:α→α):PR α→PR α
 | .ok x r=> .ok (m x) (r.map Tk.bare)
 | .err e _=> .err e 0
def Bare {α:Type} (m:α→α) (f:List Tk→PR α):Prop:=∀l,f (l.map Tk.bare)=(f l).bare m
theorem hdT_bare (l:List Tk):hdT (l.map Tk.bare)=(hdT l).bare :=by cases l<;>rfl
theorem isP_bare (s:List (List UInt8)) (l:List Tk):isP s (l.map Tk.bare)=isP s l:=by unfold isP;rw[hdT_bare];rfl
theorem mayB_bare (s:List UInt8) (l:List Tk):mayB s (l.map Tk.bare)=mayB s l:=by unfold mayB;rw[isP_bare]
theorem namedB_bare (l:List Tk):namedB (l.map Tk.bare)=namedB l:=by unfold namedB;rw[hdT_bare];rfl
theorem tail_bare (l:List Tk):(l.map Tk.bare).tail =l.tail.map Tk.bare:=by cases l<;>rfl
theorem hd_at_bare (l:List Tk):((hdT (l.map Tk.bare)).at_ :Int)=0:=by rw[hdT_bare];rfl
theorem hd_text_bare (l:List Tk):(hdT (l.map Tk.bare)).text =(hdT l).text :=by rw[hdT_bare];rfl
theorem hd_kind_bare (l:List Tk):(hdT (l.map Tk.bare)).kind =(hdT l).kind :=by rw[hdT_bare];rfl
theorem then_bare {α β:Type} {m:α→α} {m':β→β} {x:PR α} {y:PR α} {g g':α→List Tk→PR β} (hx:y=x.bare m) (hg:∀a r,g (m a) (r.map Tk.bare)=(g' a r).bare m'):y.then g=(x.then g').bare m':=by
 subst hx
 cases x with
 |ok a r=>exact hg a r
 |err e a=>rfl
theorem takeP_bare (s:List UInt8):Bare id (takeP s):=fun l=>by
 unfold takeP
 rw[mayB_bare,tail_bare,hd_at_bare]
 split<;>rfl
theorem nameP_bare:Bare Va.bare nameP:=fun l=>by
 unfold nameP
 rw[namedB_bare,tail_bare,hdT_bare]
 split<;>rfl
theorem numberP_bare:Bare id numberP:=fun l=>by
 unfold numberP
 rw[hd_kind_bare,tail_bare,hdT_bare]
 split<;>rfl
theorem chainF_bare {α:Type} {m:α→α} {one:List Tk→PR α} {join:Int→Int→α→α→α} {signs:List (List UInt8)} (h1:Bare m one) (h2:∀k a x y,join k 0 (m x) (m y)=m (join k a x y)):
  ∀(f:Nat) (x:α) (l:List Tk),chainF one join signs f (m x) (l.map Tk.bare)=(chainF one join signs f x l).bare m
 |0,x,l=>rfl
 |f+1,x,l=>by
  unfold chainF
  rw[isP_bare,tail_bare,hd_at_bare]
  split
  ·rfl
  ·refine then_bare (h1 _) fun y r=>?_
   rw[h2 _ ((hdT l).at_ :Int)]
   exact chainF_bare h1 h2 f _ r
theorem chainP_bare {α:Type} {m:α→α} {one:List Tk→PR α} {join:Int→Int→α→α→α} {signs:List (List UInt8)} (h1:Bare m one) (h2:∀k a x y,join k 0 (m x) (m y)=m (join k a x y)):Bare m (chainP one join signs):=fun l=>by
 unfold chainP
 refine then_bare (h1 l) fun x r=>?_
 rw[List.length_map]
 exact chainF_bare h1 h2 _ x r
theorem twoX_bare (f k a:Int) (x y:Ex):twoX f k 0 x.bare y.bare=(twoX f k a x y).bare :=rfl
theorem exprOf_bare {sign:List Tk→PR Ex} (h:Bare Ex.bare sign):Bare Ex.bare (exprOf sign):=
 chainP_bare (chainP_bare (chainP_bare h fun k a x y=>twoX_bare _ k a x y) fun k a x y=>twoX_bare _ k a x y) fun k a x y=>twoX_bare _ k a x y
theorem signP_bare:∀n,Bare Ex.bare (signP n)
 |0,l=>by
  unfold signP
  simp only[mayB_bare,namedB_bare,tail_bare,hdT_bare]
  repeat' split
  any_goals rfl
  exact then_bare (numberP_bare l) fun v r=>rfl
 |n+1,l=>by
  have ih:=signP_bare n
  unfold signP
  simp only[mayB_bare,namedB_bare,tail_bare,hdT_bare]
  repeat' split
  ·exact then_bare (ih _) fun x r=>rfl
  ·exact then_bare (exprOf_bare ih _) fun x r=>then_bare (takeP_bare _ r) fun _ r=>rfl
  ·exact then_bare (exprOf_bare ih _) fun x r=>then_bare (takeP_bare _ r) fun _ r=>rfl
  ·rfl
  ·exact then_bare (numberP_bare l) fun v r=>rfl
theorem exprP_bare (n:Nat):Bare Ex.bare (exprP n):=exprOf_bare (signP_bare n)
theorem indexP_bare:∀n,Bare Ex.bare (indexP n)
 |0,l=>by
  unfold indexP withinP
  simp only[mayB_bare,tail_bare,hdT_bare]
  split<;>rfl
 |n+1,l=>by
  unfold indexP withinP
  simp only[mayB_bare,tail_bare,hdT_bare]
  split
  ·exact then_bare (exprP_bare n _) fun x r=>then_bare (takeP_bare _ r) fun _ r=>rfl
  ·rfl
theorem joinX_bare (f k a:Int) (x y:Cn):joinX f k 0 x.bare y.bare=(joinX f k a x y).bare :=rfl
theorem condOf_bare {nt:List Tk→PR Cn} (h:Bare Cn.bare nt):Bare Cn.bare (condOf nt):=
 chainP_bare (chainP_bare h fun k a x y=>joinX_bare _ k a x y) fun k a x y=>joinX_bare _ k a x y
theorem cmpP_bare (n:Nat):Bare Cn.bare (cmpP n):=fun l=>by
 unfold cmpP
 refine then_bare (exprP_bare n l) fun x r=>?_
 simp only[isP_bare,tail_bare,hdT_bare]
 split
 ·rfl
 ·exact then_bare (exprP_bare n _) fun y r=>rfl
theorem notP_bare:∀n,Bare Cn.bare (notP n)
 |0,l=>by
  unfold notP
  simp only[isP_bare,tail_bare,hdT_bare]
  repeat' split
  any_goals rfl
  exact cmpP_bare 0 l
 |n+1,l=>by
  have ih:=notP_bare n
  unfold notP
  simp only[isP_bare,tail_bare,hdT_bare]
  repeat' split
  ·exact then_bare (ih _) fun x r=>rfl
  ·exact then_bare (condOf_bare ih _) fun x r=>then_bare (takeP_bare _ r) fun _ r=>rfl
  ·rfl
  ·exact cmpP_bare (n+1) l
theorem condP_bare (n:Nat):Bare Cn.bare (condP n):=condOf_bare (notP_bare n)
theorem askP_bare (n:Nat):Bare Cds.bare (askP n):=fun l=>then_bare (takeP_bare _ l) fun _ r=>then_bare (condP_bare n r) fun x r=>then_bare (takeP_bare _ r) fun _ r=>rfl
theorem someF_bare {α:Type} {m:α→α} {one:List Tk→PR α} (h:Bare m one) (s:List UInt8):∀(f:Nat) (acc:List α) (l:List Tk),someF one s f (acc.map m) (l.map Tk.bare)=(someF one s f acc l).bare (List.map m)
 |0,acc,l=>rfl
 |f+1,acc,l=>by
  unfold someF
  refine then_bare (h l) fun x r=>?_
  have e:acc.map m++ [m x]=(acc++ [x]).map m:=by simp
  simp only[mayB_bare,tail_bare,e]
  split
  ·exact someF_bare h s f _ _
  ·exact then_bare (takeP_bare s r) fun _ r=>rfl
theorem someP_bare {α:Type} {m:α→α} {one:List Tk→PR α} (h:Bare m one) (s:List UInt8) (no:Bool):Bare (List.map m) (someP one s no):=fun l=>by
 unfold someP
 simp only[mayB_bare,tail_bare,List.length_map]
 split
 ·rfl
 ·exact someF_bare h s _ [] l
theorem stsOf_bare:∀xs,stsOf (xs.map St.bare)=(stsOf xs).bare
 | []=>rfl
 |x::r=>by
  show St.cons x.bare (stsOf (r.map St.bare))=(St.cons x (stsOf r)).bare
  rw[stsOf_bare r];rfl
theorem exsOf_bare:∀xs,exsOf (xs.map Ex.bare)=(exsOf xs).bare
 | []=>rfl
 |x::r=>by
  show Ex.cons x.bare (exsOf (r.map Ex.bare))=(Ex.cons x (exsOf r)).bare
  rw[exsOf_bare r];rfl
theorem endS_bare {x y:St} (h:y=x.bare) (l:List Tk):endS y (l.map Tk.bare)=(endS x l).bare St.bare:=by
 subst h
 exact then_bare (takeP_bare _ l) fun _ r=>rfl
theorem stmtOf_bare {blk:List Tk→PR (List St)} (hb:Bare (List.map St.bare) blk) (n:Nat):Bare St.bare (stmtOf blk n):=fun l=>by
 unfold stmtOf
 simp only[hd_at_bare,hd_text_bare,tail_bare]
 repeat' split
 ·exact endS_bare (by rfl) _
 ·exact then_bare (nameP_bare _) fun x r=>endS_bare (by rfl) _
 ·exact then_bare (askP_bare n _) fun x r=>endS_bare (by rfl) _
 ·refine then_bare (askP_bare n _) fun c r=>then_bare (hb r) fun b r=>?_
  simp only[mayB_bare,tail_bare]
  split
  ·exact then_bare (hb _) fun e r=>by simp only[PR.bare,St.bare,stsOf_bare];rfl
  ·simp only[PR.bare,St.bare,stsOf_bare];rfl
 ·exact then_bare (askP_bare n _) fun c r=>then_bare (hb r) fun b r=>by simp only[PR.bare,St.bare,stsOf_bare];rfl
 ·exact then_bare (nameP_bare _) fun x r=>then_bare (takeP_bare _ r) fun _ r=>then_bare (someP_bare (exprP_bare n) _ _ r) fun xs r=>endS_bare (by simp only[St.bare,exsOf_bare];rfl) r
 ·refine then_bare (nameP_bare l) fun x r=>?_
  simp only[mayB_bare]
  split
  ·exact then_bare (indexP_bare n r) fun i r=>then_bare (takeP_bare _ r) fun _ r=>then_bare (exprP_bare n r) fun e r=>endS_bare (by rfl) r
  ·exact then_bare (takeP_bare _ r) fun _ r=>then_bare (exprP_bare n r) fun e r=>endS_bare (by rfl) r
theorem stmtsF_bare {one:List Tk→PR St} (h:Bare St.bare one):∀(f:Nat) (acc:List St) (l:List Tk),stmtsF one f (acc.map St.bare) (l.map Tk.bare)=(stmtsF one f acc l).bare (List.map St.bare)
 |0,acc,l=>rfl
 |f+1,acc,l=>by
  unfold stmtsF
  simp only[mayB_bare,tail_bare]
  split
  ·rfl
  ·refine then_bare (h l) fun x r=>?_
   have e:acc.map St.bare++ [x.bare]=(acc++ [x]).map St.bare:=by simp
   rw[e]
   exact stmtsF_bare h f _ r
theorem blockP_bare:∀n,Bare (List.map St.bare) (blockP n)
 |0,l=>by
  unfold blockP
  simp only[mayB_bare,hdT_bare]
  split<;>rfl
 |n+1,l=>by
  unfold blockP
  simp only[mayB_bare,tail_bare,hdT_bare,List.length_map]
  split
  ·exact stmtsF_bare (stmtOf_bare (blockP_bare n) n) _ [] _
  ·rfl
theorem sizedP_bare:Bare Arr.bare sizedP:=fun l=>then_bare (nameP_bare l) fun x r=>then_bare (takeP_bare _ r) fun _ r=>then_bare (numberP_bare r) fun n r=>then_bare (takeP_bare _ r) fun _ r=>rfl
theorem procP_bare:Bare Prc.bare procP:=fun l=>then_bare (nameP_bare l) fun x r=>then_bare (takeP_bare _ r) fun _ r=>then_bare (someP_bare nameP_bare _ _ r) fun ps r=>then_bare (blockP_bare 24 r) fun b r=>by simp only[PR.bare,Prc.bare,stsOf_bare];rfl
def headM (p:List Va×List Arr):List Va×List Arr:=(p.1.map Va.bare,p.2.map Arr.bare)
theorem headF_bare:∀(f:Nat) (vs:List Va) (xs:List Arr) (l:List Tk),headF f (vs.map Va.bare) (xs.map Arr.bare) (l.map Tk.bare)=(headF f vs xs l).bare headM
 |0,vs,xs,l=>rfl
 |f+1,vs,xs,l=>by
  unfold headF
  simp only[mayB_bare,tail_bare]
  split
  ·refine then_bare (someP_bare nameP_bare _ _ _) fun v r=>?_
   rw[←List.map_append]
   exact headF_bare f _ _ r
  split
  ·refine then_bare (someP_bare sizedP_bare _ _ _) fun v r=>?_
   rw[←List.map_append]
   exact headF_bare f _ _ r
  ·rfl
theorem procsF_bare:∀(f:Nat) (ps:List Prc) (l:List Tk),procsF f (ps.map Prc.bare) (l.map Tk.bare)=(procsF f ps l).bare (List.map Prc.bare)
 |0,ps,l=>rfl
 |f+1,ps,l=>by
  unfold procsF
  simp only[mayB_bare,tail_bare]
  split
  ·refine then_bare (procP_bare _) fun p r=>?_
   have e:ps.map Prc.bare++ [p.bare]=(ps++ [p]).map Prc.bare:=by simp
   rw[e]
   exact procsF_bare f _ r
  ·rfl
theorem treeP_bare:Bare Tre.bare treeP:=fun l=>by
 unfold treeP
 rw[List.length_map]
 refine then_bare (headF_bare _ [] [] l) fun vx r=>?_
 rw[List.length_map]
 refine then_bare (procsF_bare _ [] r) fun ps r=>then_bare (takeP_bare _ r) fun _ r=>then_bare (blockP_bare 24 r) fun b r=>?_
 simp only[List.length_map,hdT_bare]
 split
 ·rfl
 ·simp only[PR.bare,Tre.bare,stsOf_bare];rfl

theorem parseB_ok {s:List UInt8} (h:(toks s).2.2 =0):parseB s=match treeP ((toks s).1 ++ [endT s])with| .ok t _=>(t,0,0)| .err e a=>(⟨[], [], [],.nil⟩,a,e):=by
 unfold parseB
 simp only
 rw[if_neg (by simpa using h)]
 rfl

end Go.Proofs.YtobegfbdedgmpaaGreatDoor
