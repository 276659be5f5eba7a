/-
  law13.FlowLess: the plain law: a graph without what comes out of a node, and with its nodes' numbers one more. No walk.
-/
import Derived.Test.YtobegfbdedgmpaaGreatDoorJnCk3
set_option linter.unusedVariables false
set_option linter.unusedSimpArgs false
namespace Go.Proofs.YtobegfbdedgmpaaGreatDoor
open Go.RowKit

def Ed.up (e:Ed):Ed:={e with from_:=e.from_+1,to_:=e.to_+1}
def lessE (l:List Ed) (x:Int):List Ed:=l.filter fun e=>e.from_ != x
def Gr.less (g:Gr) (x:Int):Gr:={g with edges:=lessE g.edges x}
def Gr.up (g:Gr):Gr:={g with nodes:=g.nodes+1,start:=g.start+1,last:=g.last+1,edges:=g.edges.map Ed.up}
theorem outE_up (l:List Ed) (x:Int):outE (l.map Ed.up) (x+1)=(outE l x).map Ed.up:=by
 unfold outE
 rw[List.filter_map]
 congr 1
 apply List.filter_congr
 intro e _
 show(e.from_+1==x+1)=(e.from_==x)
 rw[Bool.eq_iff_iff]
 simp
theorem rightB_up (l:List Ed):rightB (l.map Ed.up)=rightB l:=by
 rcases l with _|⟨a,_|⟨b,_|⟨c,r⟩⟩⟩<;>rfl
theorem walkR_up (l:List Ed) (node:Int):∀(n:Nat) (x:Int),walkR (l.map Ed.up) (node+1) (x+1) n=walkR l node x n
 |0,_=>by simp[walkR]
 |n+1,x=>by
  simp only[walkR]
  rw[outE_up]
  rcases h:outE l x with _|⟨a,_|⟨b,r⟩⟩
  ·rfl
  ·show(if a.kind=1 then(if a.to_+1=node+1 then true else walkR (l.map Ed.up) (node+1) (a.to_+1) n)else false)=_
   rw[walkR_up l node n a.to_]
   simp only[Int.add_left_inj]
  ·rfl
theorem outE_less (l:List Ed) (x y:Int):outE (lessE l x) y=if y=x then []else outE l y:=by
 unfold outE lessE
 rw[List.filter_filter]
 split
 ·rename_i h
  subst h
  rw[List.filter_eq_nil_iff]
  intro e _
  simp
 ·rename_i h
  apply List.filter_congr
  intro e _
  rw[Bool.eq_iff_iff]
  simp
  intro h2 h3
  exact h (h2.symm.trans h3)
theorem walkR_more (l:List Ed) (node:Int):∀(n m:Nat) (x:Int),n≤m→walkR l node x n=true→walkR l node x m=true
 |0,_,_,_,h=>by simp[walkR]at h
 |n+1,0,_,hn,_=>by omega
 |n+1,m+1,x,hn,h=>by
  simp only[walkR]at h ⊢
  rcases h2:outE l x with _|⟨a,_|⟨b,r⟩⟩
  ·rw[h2]at h;cases h
  ·rw[h2]at h
   simp only at h ⊢
   split at h
   ·rename_i h3
    rw[if_pos h3]
    split at h
    ·rename_i h4
     rw[if_pos h4]
    ·rename_i h4
     rw[if_neg h4]
     exact walkR_more l node n m _ (by omega) h
   ·cases h
  ·rw[h2]at h;cases h
theorem walkR_less (l:List Ed) (z node:Int):∀(n:Nat) (x:Int),walkR (lessE l z) node x n=true→walkR l node x n=true
 |0,_,h=>by simp[walkR]at h
 |n+1,x,h=>by
  simp only[walkR]at h ⊢
  rw[outE_less]at h
  split at h
  ·rename_i a h1
   split at h1
   ·cases h1
   ·rw[h1]
    simp only
    split at h
    ·rename_i h3
     rw[if_pos h3]
     split at h
     ·rename_i h4
      rw[if_pos h4]
     ·rename_i h4
      rw[if_neg h4]
      exact walkR_less l z node n _ h
    ·cases h
  ·cases h
theorem less_len (l:List Ed) (x:Int):(lessE l x).length ≤l.length:=List.length_filter_le _ _
theorem mayG_less {g:Gr} (x:Int) (h:mayG g=true):mayG (g.less x)=true:=by
 unfold mayG at h ⊢
 simp only[Bool.and_eq_true,Bool.not_eq_true',Bool.or_eq_false_iff,List.all_eq_true]at h ⊢
 obtain⟨⟨⟨h1,h2⟩,h3⟩,h4⟩:=h
 have hl:=less_len g.edges x
 refine⟨⟨⟨?_,h2⟩,?_⟩,?_⟩
 ·unfold odd1 at h1 ⊢
  simp only[Bool.or_eq_false_iff,decide_eq_false_iff_not]at h1 ⊢
  refine⟨h1.1,?_⟩
  have:=h1.2
  show ¬2048 < ((lessE g.edges x).length :Int)
  omega
 ·rw[List.any_eq_false]at h3 ⊢
  exact fun e he=>h3 e (List.mem_filter.1 he).1
 ·intro e he
  obtain⟨he1,he2⟩:=List.mem_filter.1 he
  have hx:e.from_≠x:=by simpa using he2
  have h5:=h4 e he1
  unfold nodeOk at h5 ⊢
  simp only[Bool.and_eq_true,Bool.not_eq_true']at h5 ⊢
  obtain⟨⟨h6,h7⟩,h8⟩:=h5
  refine⟨⟨h6,?_⟩,?_⟩
  ·show rightB (outE (lessE g.edges x) e.from_)=true
   rw[outE_less,if_neg hx]
   exact h7
  ·show walkR (lessE g.edges x) e.from_ e.from_ (lessE g.edges x).length =false
   cases h9:walkR (lessE g.edges x) e.from_ e.from_ (lessE g.edges x).length
   ·rfl
   ·rw[walkR_more g.edges _ _ _ _ hl (walkR_less _ _ _ _ _ h9)]at h8
    cases h8
theorem mayG_nodes {g:Gr} (h:mayG g=true):g.edges.length≤2048∧g.nodes≤4096∧(0≤g.start∧g.start < g.nodes)∧(0≤g.last∧g.last < g.nodes)∧∀e∈g.edges,(0≤e.from_∧e.from_ < g.nodes)∧0≤e.to_∧e.to_ < g.nodes:=by
 unfold mayG at h
 simp only[Bool.and_eq_true,Bool.not_eq_true',Bool.or_eq_false_iff,List.all_eq_true]at h
 obtain⟨⟨⟨h1,h2⟩,h3⟩,h4⟩:=h
 unfold odd1 at h1
 unfold odd2 at h2
 simp only[Bool.or_eq_false_iff,decide_eq_false_iff_not,Bool.not_eq_false',Bool.and_eq_true,decide_eq_true_eq]at h1 h2
 refine⟨by omega,by omega,h2.1.1.1,h2.1.1.2,fun e he=>?_⟩
 have:=List.any_eq_false.1 h3 e he
 unfold edBad at this
 simp only[Bool.not_eq_true,Bool.or_eq_false_iff,Bool.not_eq_false',Bool.and_eq_true,decide_eq_true_eq]at this
 exact this.1
theorem mayG_up {g:Gr} (h:mayG g=true) (hn:g.nodes < 4096):mayG g.up=true:=by
 unfold mayG at h ⊢
 simp only[Bool.and_eq_true,Bool.not_eq_true',Bool.or_eq_false_iff,List.all_eq_true]at h ⊢
 obtain⟨⟨⟨h1,h2⟩,h3⟩,h4⟩:=h
 refine⟨⟨⟨?_,?_⟩,?_⟩,?_⟩
 ·unfold odd1 at h1 ⊢
  simp only[Bool.or_eq_false_iff,decide_eq_false_iff_not]at h1 ⊢
  show((((¬g.vars < 0∧¬32 < g.vars)∧¬4 < (g.arrays.length:Int))∧¬g.nodes+1 < 2)∧¬4096 < g.nodes+1)∧¬2048 < ((g.edges.map Ed.up).length :Int)
  rw[List.length_map]
  omega
 ·unfold odd2 at h2 ⊢
  simp only[Bool.or_eq_false_iff,Bool.not_eq_false',Bool.and_eq_true,decide_eq_true_eq]at h2 ⊢
  obtain⟨⟨⟨h5,h6⟩,h7⟩,h8⟩:=h2
  refine⟨⟨⟨?_,?_⟩,?_⟩,h8⟩
  ·show 0≤g.start+1∧g.start+1 < g.nodes+1
   omega
  ·show 0≤g.last+1∧g.last+1 < g.nodes+1
   omega
  ·show(g.start+1==g.last+1)=false
   simp at h7 ⊢
   exact h7
 ·rw[List.any_eq_false]at h3 ⊢
  intro e he
  obtain⟨y,hy,rfl⟩:=List.mem_map.1 he
  have:=h3 y hy
  unfold edBad at this ⊢
  simp only[Bool.not_eq_true,Bool.or_eq_false_iff,Bool.not_eq_false',Bool.and_eq_true,decide_eq_true_eq]at this ⊢
  refine⟨⟨?_,?_⟩,this.2⟩
  ·show 0≤y.from_+1∧y.from_+1 < g.nodes+1
   omega
  ·show 0≤y.to_+1∧y.to_+1 < g.nodes+1
   omega
 ·intro e he
  obtain⟨y,hy,rfl⟩:=List.mem_map.1 he
  have h5:=h4 y hy
  unfold nodeOk at h5 ⊢
  simp only[Bool.and_eq_true,Bool.not_eq_true']at h5 ⊢
  obtain⟨⟨h6,h7⟩,h8⟩:=h5
  refine⟨⟨?_,?_⟩,?_⟩
  ·show(y.from_+1==g.last+1)=false
   simp at h6 ⊢
   exact h6
  ·show rightB (outE (g.edges.map Ed.up) (y.from_+1))=true
   rw[outE_up,rightB_up]
   exact h7
  ·show walkR (g.edges.map Ed.up) (y.from_+1) (y.from_+1) (g.edges.map Ed.up).length =false
   rw[List.length_map,walkR_up]
   exact h8
theorem take_less (l:List Ed) (x:Int) (i:Nat) (e:Ed) (h:l[i]?=some e):lessE (l.take (i+1)) x=if e.from_=x then lessE (l.take i) x else lessE (l.take i) x++ [e]:=by
 unfold lessE
 have hi:=(List.getElem?_eq_some_iff.1 h).1
 rw[List.take_add_one,h,List.filter_append]
 simp only[Option.toList]
 by_cases hx:e.from_=x
 ·simp[hx]
 ·simp[hx]
end Go.Proofs.YtobegfbdedgmpaaGreatDoor
