/-
  facetroomref13: Opposite, Ints, alike, SameExprs.
-/
import Derived.Test.YtphlnpaikpjakaaJnCk3
import Derived.Test.YtphlnpaikpjakaaShelf
set_option maxHeartbeats 3200000
namespace Go.Proofs.Ytphlnpaikpjakaa
open Go.RowKit Go.Shelf

def QPost (b:Bool) (W:World) (e:Ending) (w':World):Prop:=e= .returned (.bool b)∧∃q,w'=W.drewN q
theorem quiet_more {P:Program} {f:FuncId} {args:Array Value} {w:World} {n:Nat} {b:Bool} (h:Calls P f args (w.drewN n) (QPost b (w.drewN n))):
  Calls P f args (w.drewN n) fun e w''=>e= .returned (.bool b)∧∃m,w''=w.drewN m:=
 h.mono fun _ _ ⟨he,m,hm⟩=>⟨he,n+m,by rw[hm,World.drewN_drewN]⟩
theorem same_drewN (B:Nat) (w:World) (q:Nat):Same B w (w.drewN q):=fun _ _=>rfl

theorem ropp_any (k:Int) (w:World) (h0:3≤k) (h1:k≤8):Calls Try.prog 67 #[.int .u8 k] w fun e w'=>e= .returned (.int .u8 (oppC k))∧Below w.heap.size w w':=by
 have hk:k=3∨k=4∨k=5∨k=6∨k=7∨k=8:=by omega
 rcases hk with rfl|rfl|rfl|rfl|rfl|rfl
 all_goals
  go_enter Try.func67,Try.ntmps67
  go_wp2
  go_ret
  exact⟨rfl,(Below.refl _ _).alloc (lrq _) _⟩

theorem ints_drop {l l':List Int} {k:Nat} {a b:Int} (ha:l[k]?=some a) (hb:l'[k]?=some b):(l.drop k==l'.drop k)=((a==b)&&(l.drop (k+1)==l'.drop (k+1))):=by
 obtain⟨h1,rfl⟩:=List.getElem?_eq_some_iff.1 ha
 obtain⟨h2,rfl⟩:=List.getElem?_eq_some_iff.1 hb
 rw[List.drop_eq_getElem_cons h1,List.drop_eq_getElem_cons h2]
 rfl
theorem rints_any (l l':List Int) (A A':Option Addr) (c c':Nat) (w:World) (B:Nat) (hx:IsSl w B l A c) (hy:IsSl w B l' A' c'):
  Calls Try.prog 25 #[.slice A l.length c,.slice A' l'.length c'] w (QPost (l==l') w):=by
 have hl:=leq9 hx.1 hx.2.1
 have hl':=leq9 hy.1 hy.2.1
 by_cases hlen:l.length=l'.length
 ·obtain⟨m,hm⟩:=nmq l'.length
  have hxm:l.length=m:=hlen.trans hm.symm
  rw[hxm,←hm]
  rw[←hm]at hl'
  have HM:=hdq hm
  have HL:=hdq hxm
  have HX:=hdq hx
  have HY:=hdq hy
  clear hlen hm hxm hl hx hy
  go_enter Try.func25,Try.ntmps25
  go_wp2
  go_loopw [5] (fun i wr=>∃k:Nat,k≤m∧i= .int .i64 k∧Hid (∃q,wr=w.drewN q)∧Hid ((l==l')=(l.drop k==l'.drop k))) (fun i _=>m - (intOf i).toNat)
  case atStart=>exact⟨0,Nat.zero_le _,rfl,⟨0,rfl⟩,rfl⟩
  case round=>
   obtain⟨k,hk,rfl,hq,hall⟩:=hrel
   by_cases hlt:k < m
   ·obtain⟨a,ha⟩:∃a,l[k]?=some a:=⟨_,List.getElem?_eq_getElem (by rw[HL.out];exact hlt)⟩
    obtain⟨b,hb⟩:∃b,l'[k]?=some b:=⟨_,List.getElem?_eq_getElem (by rw[←HM.out];exact hlt)⟩
    obtain⟨g,o,rfl,hat⟩:=HX.out.2.2 (by rw[HL.out];omega)
    obtain⟨g',o',rfl,hat'⟩:=HY.out.2.2 (by rw[←HM.out];omega)
    have hs:Same B w wr:=by obtain⟨q,hq⟩:=hq.out;rw[hq];exact same_drewN _ _ _
    have c0:=((hat.keep hs).2 k a ha).1
    have d0:=((hat'.keep hs).2 k b hb).1
    have hst:=hdq (hall.out.trans (ints_drop ha hb))
    clear ha hb hat hat' hs hall
    have hlt':((k:Nat):Int) < (m:Int):=by omega
    have hge:(0:Int)≤((k:Nat):Int):=by omega
    go_wp2_with fail
    go_quiet (fail)
    cases hp:a==b
    ·have HF:=hdq (show(l==l')=false from by rw[hst.out,hp];rfl)
     have hn:(a != b)=true:=by rw[bne,hp];rfl
     clear hp hst
     go_wp2_with fail
     go_ret
     obtain⟨q,hq⟩:=hq.out
     exact⟨by rw[HF.out];rfl,_,by rw[hq,World.drewN_drewN]⟩
    ·have HN:=hdq (show(l==l')=(l.drop (k+1)==l'.drop (k+1))from by rw[hst.out,hp];rfl)
     have hn:(a != b)=false:=by rw[bne,hp];rfl
     clear hp hst
     go_wp2_with fail
     go_roundw
     case rel=>exact⟨k+1,by omega,by go_num,by obtain⟨q,hq⟩:=hq.out;exact⟨_,by rw[hq,World.drewN_drewN]⟩,HN⟩
     case measure=>simp[intOf];omega
   ·have HF:=hdq (show(l==l')=true from by rw[hall.out,List.drop_eq_nil_of_le (by rw[HL.out];omega),List.drop_eq_nil_of_le (by rw[←HM.out];omega)];rfl)
    clear hall
    go_wp2_with fail
    go_ret
    exact⟨by rw[HF.out];rfl,hq.out⟩
 ·have HF:=hdq (show(l==l')=false from by rw[beq_eq_false_iff_ne];exact fun e=>hlen (by rw[e]))
  have hne:((l.length:Int)==(l'.length:Int))=false:=by simp;omega
  have hne':((l.length:Int) != (l'.length:Int))=true:=by simp;omega
  clear hx hy
  go_enter Try.func25,Try.ntmps25
  go_wp2_with fail
  go_ret
  exact⟨by rw[HF.out];rfl,0,rfl⟩

def RX_alike (B:Nat) (xs ys:Exs):Prop:=
 ∀(i:Nat) (k:Int) (nm:ByteArray) (n:Int) (args:Exs) (at_:Int) (rest:Exs) (k':Int) (nm':ByteArray) (n':Int) (args':Exs) (at':Int) (rest':Exs),
  Exs.drop i xs= .cons k nm n args at_ rest→Exs.drop i ys= .cons k' nm' n' args' at' rest'→
  ∀(W:World) (A A':Option Addr) (c c':Nat),ExSl W B args A c→ExSl W B args' A' c'→
   Calls Try.prog 68 #[.slice A args.len c,.slice A' args'.len c'] W (QPost (alikeX args args') W)
theorem RX_alike_step {xs ys:Exs} {i:Nat} {k nm n args at_ rest k' nm' n' args' at' rest'} (hd:Exs.drop i xs= .cons k nm n args at_ rest) (hd':Exs.drop i ys= .cons k' nm' n' args' at' rest'):
  alikeX (Exs.drop i xs) (Exs.drop i ys)=((k==k')&&(n==n')&&alikeX args args'&&alikeX (Exs.drop (i+1) xs) (Exs.drop (i+1) ys)):=by
 rw[Exs.drop_succ i xs hd,Exs.drop_succ i ys hd',hd,hd']
 simp only[alikeX]
theorem RX_alike_len:∀ {xs ys:Exs},xs.len≠ys.len→alikeX xs ys=false
 | .nil,.nil,h=>absurd rfl h
 | .nil,.cons ..,_=>rfl
 | .cons ..,.nil,_=>rfl
 | .cons _ _ _ _ _ r,.cons _ _ _ _ _ r',h=>by
  have:r.len≠r'.len:=fun e=>h (by simp[Exs.len,e])
  simp[alikeX,RX_alike_len this]
set_option maxRecDepth 100000 in
theorem r_alike_one (xs ys:Exs) (A A':Option Addr) (c c':Nat) (w:World) (B:Nat) (hx:ExSl w B xs A c) (hy:ExSl w B ys A' c') (hall0:RX_alike B xs ys):
  Calls Try.prog 68 #[.slice A xs.len c,.slice A' ys.len c'] w (QPost (alikeX xs ys) w):=by
 have hl:xs.len≤9223372036854775807:=leq9 hx.1 hx.2.1
 have hl':ys.len≤9223372036854775807:=leq9 hy.1 hy.2.1
 have HA:=hdq hall0
 clear hall0
 by_cases hlen:xs.len=ys.len
 ·obtain⟨m,hm⟩:=nmq ys.len
  have hxm:xs.len=m:=hlen.trans hm.symm
  rw[hxm,←hm]
  rw[←hm]at hl'
  have HM:=hdq hm
  have HL:=hdq hxm
  have HX:=hdq hx
  have HY:=hdq hy
  clear hlen hm hxm hl hx hy
  go_enter Try.func68,Try.ntmps68
  go_wp2
  go_loopw [5] (fun i wr=>∃k:Nat,k≤m∧i= .int .i64 k∧Hid (∃q,wr=w.drewN q)∧Hid (alikeX xs ys=alikeX (Exs.drop k xs) (Exs.drop k ys))) (fun i _=>m - (intOf i).toNat)
  case atStart=>exact⟨0,Nat.zero_le _,rfl,⟨0,rfl⟩,rfl⟩
  case round=>
   obtain⟨k,hk,rfl,hq,hall⟩:=hrel
   by_cases hlt:k < m
   ·obtain⟨a0,a1,a2,a3,a4,a5,hd⟩:=Exs.drop_cons (show k < xs.len from by rw[HL.out];exact hlt)
    obtain⟨b0,b1,b2,b3,b4,b5,hd'⟩:=Exs.drop_cons (show k < ys.len from by rw[←HM.out];exact hlt)
    obtain⟨b,o,rfl,hat⟩:=HX.out.2.2 (by rw[HL.out];omega)
    obtain⟨b',o',rfl,hat'⟩:=HY.out.2.2 (by rw[←HM.out];omega)
    have hs:Same B w wr:=by obtain⟨q,hq⟩:=hq.out;rw[hq];exact same_drewN _ _ _
    obtain⟨hbB,c0,c1,c2,⟨A1,cc,c3,hsl⟩,c4,_⟩:=(hat.keep hs).at_ hd
    obtain⟨hbB',d0,d1,d2,⟨A2,cc',d3,hsl'⟩,d4,_⟩:=(hat'.keep hs).at_ hd'
    obtain⟨r,hr⟩:=nmq (alikeX a3 b3)
    have HC:=hdq (fun q=>HA.out k a0 a1 a2 a3 a4 a5 b0 b1 b2 b3 b4 b5 hd hd' (wr.drewN q) A1 A2 cc cc' (hsl.keep (same_drewN B wr q)) (hsl'.keep (same_drewN B wr q)))
    have hst:=hdq (hall.out.trans (RX_alike_step hd hd'))
    rw[←hr]at HC hst
    have hlt':((k:Nat):Int) < (m:Int):=by omega
    have hge:(0:Int)≤((k:Nat):Int):=by omega
    clear hd hd' hat hat' hs hall hr hsl hsl'
    cases h0:a0==b0
    ·have HF:=hdq (show alikeX xs ys=false from by rw[hst.out,h0];simp)
     have hn0:(a0 != b0)=true:=by rw[bne,h0];rfl
     clear hst
     go_wp2_with fail
     go_quiet (fail)
     go_wp2_with fail
     go_ret
     obtain⟨q,hq⟩:=hq.out
     exact⟨by rw[HF.out];rfl,_,by rw[hq,World.drewN_drewN]⟩
    have hn0:(a0 != b0)=false:=by rw[bne,h0];rfl
    cases h1:a2==b2
    ·have HF:=hdq (show alikeX xs ys=false from by rw[hst.out,h1];simp)
     have hn1:(a2 != b2)=true:=by rw[bne,h1];rfl
     clear hst
     go_wp2_with fail
     go_quiet (fail)
     go_wp2_with fail
     go_ret
     obtain⟨q,hq⟩:=hq.out
     exact⟨by rw[HF.out];rfl,_,by rw[hq,World.drewN_drewN]⟩
    have hn1:(a2 != b2)=false:=by rw[bne,h1];rfl
    cases r
    ·have HF:=hdq (show alikeX xs ys=false from by rw[hst.out];simp)
     clear hst
     go_wp2_with fail
     go_quiet ((go_at_call 68;exact quiet_more (HC.out _)))
     go_wp2_with fail
     go_ret
     obtain⟨q,hq⟩:=hq.out
     exact⟨by rw[HF.out];rfl,_,by rw[hq,World.drewN_drewN]⟩
    ·have HN:=hdq (show alikeX xs ys=alikeX (Exs.drop (k+1) xs) (Exs.drop (k+1) ys)from by rw[hst.out];simp[h0,h1])
     clear hst
     go_wp2_with fail
     go_quiet ((go_at_call 68;exact quiet_more (HC.out _)))
     go_wp2_with fail
     go_roundw
     case rel=>exact⟨k+1,by omega,by go_num,by obtain⟨q,hq⟩:=hq.out;exact⟨_,by rw[hq,World.drewN_drewN]⟩,HN⟩
     case measure=>simp[intOf];omega
   ·have HF:=hdq (show alikeX xs ys=true from by rw[hall.out,Exs.drop_nil (by rw[HL.out];omega),Exs.drop_nil (by rw[←HM.out];omega)];rfl)
    clear hall
    go_wp2_with fail
    go_ret
    exact⟨by rw[HF.out];rfl,hq.out⟩
 ·have HF:=hdq (RX_alike_len hlen)
  have hne:((xs.len:Int)==(ys.len:Int))=false:=by simp;omega
  have hne':((xs.len:Int) != (ys.len:Int))=true:=by simp;omega
  clear hx hy
  go_enter Try.func68,Try.ntmps68
  go_wp2_with fail
  go_ret
  exact⟨by rw[HF.out];rfl,0,rfl⟩
theorem r_alike_all (B:Nat):∀xs ys:Exs,RX_alike B xs ys
 | .nil,_=>fun i _ _ _ _ _ _ _ _ _ _ _ _ hd=>by cases i<;>simp[Exs.drop]at hd
 | .cons ..,.nil =>fun i _ _ _ _ _ _ _ _ _ _ _ _ _ hd=>by cases i<;>simp[Exs.drop]at hd
 | .cons k nm n args at_ rest,.cons k' nm' n' args' at' rest'=>fun i _ _ _ _ _ _ _ _ _ _ _ _ hd hd' W A A' c c' hs hs'=>by
  cases i with
  |zero=>
   simp only[Exs.drop]at hd hd'
   injection hd with e1 e2 e3 e4 e5 e6
   injection hd' with f1 f2 f3 f4 f5 f6
   subst e1 e2 e3 e4 e5 e6 f1 f2 f3 f4 f5 f6
   exact r_alike_one args args' A A' c c' W B hs hs' (r_alike_all B args args')
  |succ i=>
   simp only[Exs.drop]at hd hd'
   exact r_alike_all B rest rest' i _ _ _ _ _ _ _ _ _ _ _ _ hd hd' W A A' c c' hs hs'
theorem r_alike_any (xs ys:Exs) (A A':Option Addr) (c c':Nat) (w:World) (B:Nat) (hx:ExSl w B xs A c) (hy:ExSl w B ys A' c'):
  Calls Try.prog 68 #[.slice A xs.len c,.slice A' ys.len c'] w (QPost (alikeX xs ys) w):=r_alike_one xs ys A A' c c' w B hx hy (r_alike_all B xs ys)
end Go.Proofs.Ytphlnpaikpjakaa
