/-
  pack.Packs: its state in memory.
-/
import Derived.Test.YtphlnpaikpjakaaPkP
import Derived.Test.YtphlnpaikpjakaaPkIter
set_option linter.unusedVariables false
set_option linter.unusedSimpArgs false
namespace Go.Proofs.Ytphlnpaikpjakaa
open Go.RowKit Go.Shelf

def intZ (l:List Int):List Value:=l.map (Value.int .i64)
structure PkM (w:World) (H ob v:Nat) (P:List (List Int)):Prop where
 le:P.length≤v
 obH:ob < H
 blk:∃cs:Array Value,cs.size=v∧Bk w ob 49 cs
 each:∀(i:Nat) (l:List Int),P[i]?=some l→∃b g c,w.cell? ⟨ob,i,none⟩=some (.pointer (some ⟨b,0,none⟩))∧b < H∧b≠ob∧w.cell? ⟨b,0,none⟩=some (.slice (some ⟨g,0,none⟩) l.length c)∧g≠ob∧g < H∧
  l.length≤c∧c≤9223372036854775807∧∀(j:Nat) (x:Int),l[j]?=some x→w.cell? ⟨g,j,none⟩=some (.int .i64 x)∧in64 x
theorem PkM.keep {w w':World} {H ob v:Nat} {P:List (List Int)} (h:PkM w H ob v P) (hb:Below H w w'):PkM w' H ob v P:=by
 obtain⟨cs,hcs,hB⟩:=h.blk
 refine⟨h.le,h.obH,⟨cs,hcs,(hb.block _ h.obH).trans hB⟩,fun i l hi=>?_⟩
 obtain⟨b,g,c,h1,h2,h3,h4,h5,h6,h7,h8,h9⟩:=h.each i l hi
 exact⟨b,g,c,(hb.cell (p:=⟨ob,i,none⟩) h.obH).trans h1,h2,h3,(hb.cell (p:=⟨b,0,none⟩) h2).trans h4,h5,h6,h7,h8,fun j x hj=>⟨(hb.cell (p:=⟨g,j,none⟩) h6).trans (h9 j x hj).1,(h9 j x hj).2⟩⟩
theorem PkM.rise {w:World} {H H' ob v:Nat} {P:List (List Int)} (h:PkM w H ob v P) (hH:H≤H'):PkM w H' ob v P:=
 ⟨h.le,ltq h.obH hH,h.blk,fun i l hi=>by
  obtain⟨b,g,c,h1,h2,h3,h4,h5,h6,h7⟩:=h.each i l hi
  exact⟨b,g,c,h1,ltq h2 hH,h3,h4,h5,ltq h6 hH,h7⟩⟩
theorem PkM.put {w:World} {H ob v i b g c:Nat} {P Q:List (List Int)} {l:List Int} (h:PkM w H ob v P) (hi:i < v) (hQ:Q.length≤v) (hq:∀(j:Nat) (l':List Int),Q[j]?=some l'→(j=i∧l'=l)∨(j≠i∧P[j]?=some l'))
  (hb:b < H) (hbo:b≠ob) (h0:w.cell? ⟨b,0,none⟩=some (.slice (some ⟨g,0,none⟩) l.length c)) (hgo:g≠ob) (hgH:g < H) (hlc:l.length≤c) (hc:c≤9223372036854775807) (hl:∀(j:Nat) (x:Int),l[j]?=some x→w.cell? ⟨g,j,none⟩=some (.int .i64 x)∧in64 x):
  PkM (w.setCell ⟨ob,i,none⟩ (.pointer (some ⟨b,0,none⟩))) H ob v Q:=by
 obtain⟨cs,hcs,hB⟩:=h.blk
 have hs:=hB.set_ i (.pointer (some ⟨b,0,none⟩))
 have far:∀(x j:Nat),x≠ob→(w.setCell ⟨ob,i,none⟩ (.pointer (some ⟨b,0,none⟩))).cell? ⟨x,j,none⟩=w.cell? ⟨x,j,none⟩:=fun x j hx=>World.cell?_of_block (Below.heap_setCell w ⟨ob,i,none⟩ _ x (fun e=>hx (by simpa using e.symm |>.symm)))
 refine⟨hQ,h.obH,⟨_,by simpa using hcs,hs⟩,fun j l' hj=>?_⟩
 rcases hq j l' hj with⟨rfl,rfl⟩|⟨hne,hP⟩
 ·refine⟨b,g,c,?_,hb,hbo,(far b 0 hbo).trans h0,hgo,hgH,hlc,hc,fun k x hk=>⟨(far g k hgo).trans (hl k x hk).1,(hl k x hk).2⟩⟩
  rw[hs.cell j]
  simp[hcs,hi]
 ·obtain⟨b',g',c',h1,h2,h3,h4,h5,h6,h7,h8,h9⟩:=h.each j l' hP
  refine⟨b',g',c',?_,h2,h3,(far b' 0 h3).trans h4,h5,h6,h7,h8,fun k x hk=>⟨(far g' k h5).trans (h9 k x hk).1,(h9 k x hk).2⟩⟩
  rw[hs.cell j]
  rw[hB.cell j]at h1
  rw[Array.getElem?_setIfInBounds_ne (Ne.symm hne)]
  exact h1
def LsM (w:World) (B:Nat) (ls:List (List Int)) (v:Value):Prop:=
 ∃A c,v= .slice A ls.length c∧ls.length≤c∧c≤9223372036854775807∧(0 < ls.length→∃b o,A=some ⟨b,o,none⟩∧b < B∧∀(i:Nat) (l:List Int),ls[i]?=some l→∃A' c',w.cell? ⟨b,o+i,none⟩=some (.slice A' l.length c')∧IsSl w B l A' c')
theorem scal_stops (e:Ed) (n n₀ eb:Nat) (A:Option Addr) (c:Nat) (w:World) (hn0:n₀≤w.heap.size) (hx:ExSl w n₀ e.args A c)
  (hb:w.heap[eb]?=some (.cells #[.int .i64 e.from_,.int .i64 e.to_,.int .u8 e.kind,.int .i64 e.n,.int .u8 e.cmp,.slice A e.args.len c,.int .i64 e.at_] 46 (0,0))):
  SeqStopsK Fence.wide n Try.prog 36 #[.pointer (some ⟨eb,0,none⟩)] (fun x:{x:Int // x∈scalE e}=> #[Value.int .i64 x.1]) (KpT n₀) (fun ys=>ys.map Subtype.val=scalE e) (fun _=>True) (scalE e).length w:=by
 intro l J Jx W hW hJa hJxa hY h0
 have hel:eb < w.heap.size:=(Array.getElem?_eq_some_iff.1 hb).1
 have h:=scal1_in e l n₀ (fun pre W=>∃ys:List {x:Int // x∈scalE e},ys.map Subtype.val=pre∧J ys W) (fun _ W=>∃ys,Jx ys W)
  (fun m pre x W1 hx ⟨ys,he,hj⟩ hlen=>by
   obtain⟨fn,tmps,assign,body,hy,hR⟩:=hY ys ⟨x,hx⟩ W1 hj (by rw[←he]at hlen;simpa using hlen)
   refine⟨fn,tmps,assign,body,hy,?_⟩
   refine⟨hR.1,fun c cs hroom=>?_⟩
   obtain⟨e2,w2,hp,hs⟩:=hR.2 c cs (fun d hd=>by cases hd)
   refine⟨e2,w2,?_,hs⟩
   rcases hp with⟨he2,hj2,hk2⟩|⟨he2,hj2⟩
   ·exact .inl ⟨he2,⟨_,by simp[he],hj2⟩,hk2⟩
   ·exact .inr ⟨he2, [],_,hj2⟩)
  (fun s W1 o ⟨ys,he,hj⟩=>⟨ys,he,hJa _ _ _ none hj (World.grownBy_alloc W1 o none) (fun r e=>by cases e)⟩)
  n eb A c W (leq9 hn0 hW.size) (hx.keep (Same.of hW hn0)) ((hW.block _ hel).trans hb) ⟨[],rfl,h0⟩
 refine h.mono fun e2 w2 hp=>⟨hp.1,?_⟩
 rcases hp.2 with⟨ys,he,hj⟩|⟨q,ys,hj⟩
 ·exact .inl ⟨ys,he,hj⟩
 ·exact .inr ⟨ys,trivial,hj⟩
end Go.Proofs.Ytphlnpaikpjakaa
