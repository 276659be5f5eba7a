/-
  A scope in which the run jumps back to one label, with a ghost that falls from jump to jump. No program.
-/
import Derived.Test.YtmfioehnhjjgpaaGreatDoorJgOrP
import Derived.ScopeJumps
import Derived.WalkMore
set_option linter.unusedVariables false
set_option linter.unusedSimpArgs false
namespace Go.Proofs.YtmfioehnhjjgpaaGreatDoor

def Stop (p:Prop):Prop:=p
theorem Stop.go {p:Prop} (h:Stop p):p:=h
theorem wp_scope_meet {P:Program} {a:Act} {w:World} {Q:Exit→Act→World→Prop} {c rest:Code} (l:Nat) (J:Nat→Act→World→Prop) (hf:findLabel c l=some (.seq .skip rest))
  (first:(∀n a w,J n a w→rest.wp P (Exit.jump l (fun a' w'=>∃m,J m a' w') Q) a w)→c.wp P (Exit.jump l (fun a' w'=>∃m,J m a' w') Q) a w)
  (pass:∀n a w,J n a w→rest.wp P (Exit.jump l (fun a' w'=>∃m,m < n∧J m a' w') Q) a w):(Code.scope c).wp P Q a w:=by
 have weak:∀n a w,J n a w→rest.wp P (Exit.jump l (fun a' w'=>∃m,J m a' w') Q) a w:=fun n a w h=>wp_mono (pass n a w h) fun e a w q=>by
  cases e with
  |goto l'=>exact⟨q.1,by obtain⟨m,_,hm⟩:=q.2;exact⟨m,hm⟩⟩
  |normal=>exact q
  |exit id=>exact q
  |ret=>exact q
  |panic ch=>exact q
  |outgrown=>exact q
 intro b k cs
 have hg:gotoIn l (.inScope c::k)=some (.code (.seq .skip rest):: .inScope c::k):=by simp[gotoIn,hf]
 have key:∀n a w,J n a w→∃e a' w',Q e a' w'∧Arrives P (lone (b.at a (.code (.seq .skip rest):: .inScope c::k)) cs w) b k cs e a' w':=by
  intro n
  induction n using Nat.strongRecOn with
  |_ n ih=>
   intro a w hJ
   obtain⟨e,a₁,w₁,hq,harr⟩:=(wp_seq (wp_skip (pass n a w hJ)):(Code.seq .skip rest).wp P _ a w) b (.inScope c::k) cs
   cases e with
   |normal=>exact⟨.normal,a₁,w₁,hq,Steps.trans harr (.one step_inScope)⟩
   |exit id=>exact⟨.exit id,a₁,w₁,hq,fun k' hk=>harr k' (by simp[exitTo,hk])⟩
   |goto l'=>
    obtain⟨rfl,m,hlt,hJ'⟩:=hq
    obtain⟨e₂,a₂,w₂,hq₂,harr₂⟩:=ih _ hlt a₁ w₁ hJ'
    exact⟨e₂,a₂,w₂,hq₂,.of_steps (harr _ hg) harr₂⟩
   |ret=>exact⟨_,a₁,w₁,hq,harr⟩
   |panic ch=>exact⟨_,a₁,w₁,hq,harr⟩
   |outgrown=>exact⟨_,a₁,w₁,hq,harr⟩
 obtain⟨e,a₁,w₁,hq,harr⟩:=first weak b (.inScope c::k) cs
 cases e with
 |normal=>exact⟨.normal,a₁,w₁,hq,.head step_scope (Steps.trans harr (.one step_inScope))⟩
 |exit id=>exact⟨.exit id,a₁,w₁,hq,fun k' hk=> .head step_scope (harr k' (by simp[exitTo,hk]))⟩
 |goto l'=>
  obtain⟨rfl,m,hJ'⟩:=hq
  obtain⟨e₂,a₂,w₂,hq₂,harr₂⟩:=key m a₁ w₁ hJ'
  exact⟨e₂,a₂,w₂,hq₂,.of_steps (.head step_scope (harr _ hg)) harr₂⟩
 |ret=>exact⟨_,a₁,w₁,hq,.of_steps (.one step_scope) harr⟩
 |panic ch=>exact⟨_,a₁,w₁,hq,.of_steps (.one step_scope) harr⟩
 |outgrown=>exact⟨_,a₁,w₁,hq,.of_steps (.one step_scope) harr⟩
end Go.Proofs.YtmfioehnhjjgpaaGreatDoor
