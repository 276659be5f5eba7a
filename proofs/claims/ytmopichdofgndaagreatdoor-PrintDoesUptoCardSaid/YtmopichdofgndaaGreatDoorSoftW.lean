/-
  What numbers and names written over turn: kinds stay. No program.
-/
import Derived.Test.YtmopichdofgndaaGreatDoorJnRw
set_option linter.unusedVariables false
set_option linter.unusedSimpArgs false
namespace Go.Proofs.YtmopichdofgndaaGreatDoor
open Go.RowKit

def KinV (u v:Value):Prop:=v=u∨(∃k n m,u= .int k n∧v= .int k m)∨∃a b,u= .string a∧v= .string b
theorem KinV.trans {u v x:Value} (h:KinV u v) (k:KinV v x):KinV u x:=by
 rcases h with rfl|⟨q,n,m,rfl,rfl⟩|⟨a,b,rfl,rfl⟩
 ·exact k
 ·rcases k with rfl|⟨q2,n2,m2,e,rfl⟩|⟨a,b,e,rfl⟩
  ·exact .inr (.inl ⟨_,_,_,rfl,rfl⟩)
  ·injection e with e1 e2
   subst e1
   exact .inr (.inl ⟨_,_,_,rfl,rfl⟩)
  ·cases e
 ·rcases k with rfl|⟨q2,n2,m2,e,rfl⟩|⟨a,b,e,rfl⟩
  ·exact .inr (.inr ⟨_,_,rfl,rfl⟩)
  ·cases e
  ·exact .inr (.inr ⟨_,_,rfl,rfl⟩)
structure Soft (L U:Nat) (w w':World):Prop where
 fr:Fr (fun b=>L≤b∧b < U) w w'
 fz:∀p,w'.frozen? p=w.frozen? p
 kin:∀p u,w.cell? p=some u→∃v,w'.cell? p=some v∧KinV u v
theorem Soft.refl (L U:Nat) (w:World):Soft L U w w:=⟨Fr.refl _ _,fun _=>rfl,fun p u h=>⟨u,h,.inl rfl⟩⟩
theorem Soft.int {L U:Nat} {w w':World} (h:Soft L U w w') {p:Addr} {k:IntKind} {n:Int} (e:w.cell? p=some (.int k n)):∃m,w'.cell? p=some (.int k m):=by
 obtain⟨v,h1,h2⟩:=h.kin p _ e
 rcases h2 with rfl|⟨q,n,m,e2,rfl⟩|⟨a,b,e2,rfl⟩
 ·exact⟨_,h1⟩
 ·injection e2 with e3 e4
  subst e3
  exact⟨_,h1⟩
 ·cases e2
theorem Soft.slice {L U:Nat} {w w':World} (h:Soft L U w w') {p:Addr} {A:Option Addr} {n c:Nat} (e:w.cell? p=some (.slice A n c)):w'.cell? p=some (.slice A n c):=by
 obtain⟨v,h1,h2⟩:=h.kin p _ e
 rcases h2 with rfl|⟨q,n,m,e2,rfl⟩|⟨a,b,e2,rfl⟩
 ·exact h1
 ·cases e2
 ·cases e2
theorem Soft.thaw {L U:Nat} {w w':World} (h:Soft L U w w') {p:Addr} (e:w.frozen? p=false):w'.frozen? p=false:=(h.fz p).trans e
theorem Soft.put {L U:Nat} {w w':World} (h:Soft L U w w') {b o:Nat} {u v:Value} (e:w'.cell? ⟨b,o,none⟩=some u) (hk:KinV u v) (hb:L≤b∧b < U):Soft L U w (w'.setCell ⟨b,o,none⟩ v):=by
 refine⟨h.fr.setCell (p:=⟨b,o,none⟩) (.inl hb) v,fun p=>(World.frozen?_setCell _ _ _ _).trans (h.fz p),fun p x hp=>?_⟩
 obtain⟨y,h1,h2⟩:=h.kin p x hp
 by_cases hq:(⟨b,o,none⟩:Addr)=p
 ·subst hq
  rw[e]at h1
  injection h1 with h1
  subst h1
  exact⟨v,World.cell?_setCell_same _ _ _ e,h2.trans hk⟩
 ·exact⟨y,(World.cell?_setCell_other _ _ _ _ hq).trans h1,h2⟩
theorem Soft.putInt {L U:Nat} {w w':World} (h:Soft L U w w') {b o:Nat} {k:IntKind} {n:Int} (m:Int) (e:w'.cell? ⟨b,o,none⟩=some (.int k n)) (hb:L≤b∧b < U):Soft L U w (w'.setCell ⟨b,o,none⟩ (.int k m)):=h.put e (.inr (.inl ⟨_,_,_,rfl,rfl⟩)) hb
theorem StR.at_ {w:World} {S:Nat→Prop} {xs:Sts} {b o k:Nat} {a0:Int} {a1:ByteArray} {a2:Exs} {a3:Cds} {a4 a5:Sts} {a6:Int} {ar:Sts} (h:StR w S True xs b o) (hd:Sts.drop k xs= .cons a0 a1 a2 a3 a4 a5 a6 ar):
  S b∧(∃n,w.cell? ⟨b,o+k*7,none⟩=some (.int .u8 n))∧w.frozen? ⟨b,o+k*7,none⟩=false∧∃A c,w.cell? ⟨b,o+k*7+2,none⟩=some (.slice A a2.len c)∧SlR (fun b' o'=>ExR w S True a2 b' o') a2.len 64 A c:=by
 have h1:=StR.drop k h
 rw[hd]at h1
 obtain⟨⟨hb,hf,_,_,h0,_⟩,⟨A,c,h3,hs⟩,_⟩:=h1
 exact⟨hb,⟨_,h0⟩,by have:=hf trivial 0 (by decide);rwa [Nat.add_zero]at this,A,c,h3,hs⟩
theorem ExR.at_ {w:World} {S:Nat→Prop} {xs:Exs} {b o k:Nat} (h:ExR w S True xs b o) (hk:k < xs.len):S b∧(∃n,w.cell? ⟨b,o+k*5+2,none⟩=some (.int .i64 n))∧w.frozen? ⟨b,o+k*5+2,none⟩=false:=by
 have h1:=ExR.drop k h
 obtain⟨a0,a1,a2,a3,a4,ar,hd⟩:=Exs.drop_cons hk
 rw[hd]at h1
 obtain⟨⟨hb,hf,_,_,_,_,_,h2,_⟩,_⟩:=h1
 exact⟨hb,⟨_,h2⟩,hf trivial 2 (by decide)⟩
end Go.Proofs.YtmopichdofgndaaGreatDoor
