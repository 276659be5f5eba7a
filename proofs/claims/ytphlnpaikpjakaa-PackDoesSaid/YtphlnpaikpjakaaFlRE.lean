/-
  facetroomref13.round: whether a node leads to itself by skips alone.
-/
import Derived.Test.YtphlnpaikpjakaaFlRC
namespace Go.Proofs.Ytphlnpaikpjakaa
open Go.RowKit Go.Shelf

theorem walkR_one {l:List Ed} {x y:Int} {e:Ed} (h:outE l y= [e]) (f:Nat):walkR l x y (f+1)=if e.kind=1 then if e.to_=x then true else walkR l x e.to_ f else false:=by
 simp[walkR,h]
theorem walkR_no {l:List Ed} {x y:Int} (h:(outE l y).length ≠1) (f:Nat):walkR l x y f=false:=by
 cases f with
 |zero=>rfl
 |succ f=>
  unfold walkR
  split
  ·rename_i e he;rw[he]at h;exact absurd rfl h
  ·rfl
theorem picks_len (l:List Ed) (x:Int):(idxE l x l.length).length =(outE l x).length :=by
 have:=congrArg List.length (picks_all l x)
 simpa using this
theorem picks_one {l:List Ed} {x:Int} {e:Ed} (h:outE l x= [e]):∃i,idxE l x l.length= [i]∧l[i]?=some e:=by
 have h1:=picks_all l x
 rw[h]at h1
 cases hi:idxE l x l.length with
 |nil=>rw[hi]at h1;simp at h1
 |cons i r=>
  rw[hi]at h1
  simp only[List.map_cons,List.map_nil,List.cons.injEq]at h1
  obtain⟨h2,h3⟩:=h1
  have:r= []:=List.map_eq_nil_iff.1 h3
  subst this
  exact⟨i,rfl,h2⟩

set_option maxRecDepth 100000 in
set_option maxHeartbeats 1600000 in
theorem rround_any (l:List Ed) (x:Int) (hx64:in64 x) (vars:Int) (Aa:Option Addr) (na ca:Nat) (nodes start last:Int) (Ae:Option Addr) (ce B:Nat) (w:World) (hB:B≤w.heap.size)
  (hx:EdSl w B l Ae ce) (hlen:l.length≤2048):
  Calls Try.prog 44 #[grV vars Aa na ca nodes start last Ae l.length ce,.int .i64 x] w (BoolPost (walkR l x x (l.length+1)) w):=by
 have HX:=hdq hx
 have HC:=hdq (fun(y:Int) (W:World) (h1:B≤W.heap.size) (h2:EdSl W B l Ae ce)=>rout_any l y vars Aa na ca nodes start last Ae ce B W h1 h2 hlen)
 unfold grV at HC
 obtain⟨n,hn⟩:=nmq l.length
 have HN:=hdq hn
 rw[←hn]at hlen HC ⊢
 clear hx hn
 unfold grV
 go_enter Try.func44,Try.ntmps44
 go_wp2
 go_loopw [5,6] (fun a i wr=>∃(k:Nat) (y:Int),k≤n+1∧a= .int .i64 y∧i= .int .i64 k∧Hid (in64 y)∧Hid (walkR l x x (n+1)=walkR l x y (n+1 - k))∧Hid (Below w.heap.size w wr∧Below (w.heap.size+1) (w.alloc (.cells #[.int .i64 vars,.slice Aa na ca,.int .i64 nodes,.int .i64 start,.int .i64 last,.slice Ae n ce] 25)) wr)) (fun _ i _=>n+1 - (intOf i).toNat)
 case atStart=>
  exact⟨0,x,Nat.zero_le _,rfl,rfl,hx64,rfl,(Below.refl _ _).alloc (lrq _) _,(Below.refl (w.alloc (.cells #[.int .i64 vars,.slice Aa na ca,.int .i64 nodes,.int .i64 start,.int .i64 last,.slice Ae n ce] 25)).heap.size _).mono (by simp)⟩
 case round=>
  obtain⟨k,y,hk,rfl,rfl,hy,hw,hbs⟩:=hrel
  obtain⟨hb1,hb2⟩:=hbs.out
  have g0:=(hb2.cell (p:=⟨w.heap.size,0,none⟩) (by simp)).trans (newCell w _ _ 0)
  have g1:=(hb2.cell (p:=⟨w.heap.size,1,none⟩) (by simp)).trans (newCell w _ _ 1)
  have g2:=(hb2.cell (p:=⟨w.heap.size,2,none⟩) (by simp)).trans (newCell w _ _ 2)
  have g3:=(hb2.cell (p:=⟨w.heap.size,3,none⟩) (by simp)).trans (newCell w _ _ 3)
  have g4:=(hb2.cell (p:=⟨w.heap.size,4,none⟩) (by simp)).trans (newCell w _ _ 4)
  have g5:=(hb2.cell (p:=⟨w.heap.size,5,none⟩) (by simp)).trans (newCell w _ _ 5)
  simp only[List.getElem?_toArray,List.getElem?_cons_succ,List.getElem?_cons_zero]at g0 g1 g2 g3 g4 g5
  have HB1:=hdq hb1
  have HB2:=hdq hb2
  by_cases hlt:k≤n
  ·have hkn:decide ((k:Int)≤(n:Int))=true:=by simp;omega
   have hwrs:w.heap.size < wr.heap.size:=by have:=hb2.size;simp at this;omega
   clear hb1 hb2
   go_wp2_with fail
   refine(HC.out y wr (leq9 hB HB1.out.size) (HX.out.keep (Same.of HB1.out hB))).mono ?_
   rintro _ w1 ⟨A',c',rfl,hs,hb3⟩
   have hn1:=HB1.out.trans (hb3.mono HB1.out.size)
   have hn2:=HB2.out.trans (hb3.mono (show w.heap.size+1≤wr.heap.size from hwrs))
   have g5':=(hb3.cell (p:=⟨w.heap.size,5,none⟩) hwrs).trans g5
   have hw2:walkR l x x (n+1)=walkR l x y ((n - k)+1):=by rw[hw.out,show n+1 - k=(n - k)+1 from by omega]
   have HN1:=hdq hn1
   have HN2:=hdq hn2
   clear hn2 hb3 g0 g1 g2 g3 g4 g5 hw
   by_cases h1:(outE l y).length =1
   ·obtain⟨e,he⟩:=List.length_eq_one_iff.1 h1
    obtain⟨i,hi,hie⟩:=picks_one he
    rw[walkR_one he]at hw2
    rw[hi]at hs ⊢
    have hil:i < n:=by rw[HN.out];exact(List.getElem?_eq_some_iff.1 hie).1
    obtain⟨g,o,rfl,hat⟩:=HX.out.2.2 (by rw[←HN.out];omega)
    obtain⟨hbB,c0,c1,c2,_,_,_,_,hok⟩:=(hat.keep (Same.of hn1 hB)).at_ hie
    obtain⟨g',o',rfl,hg',his⟩:=hs.2.2 (by simp)
    have d0:=(his 0 _ rfl).1
    rw[Nat.add_zero]at d0
    have hi1:(i:Int) < (n:Int):=by omega
    have hi0:(0:Int)≤(i:Int):=by omega
    have HW:=hdq hw2
    have HOK:=hdq hok.2.1
    clear he hi hie hat his hs hok hw2 hn1 h1 hg'
    cases hq:e.kind==1
    ·have hq':(e.kind != 1)=true:=by rw[bne,hq];rfl
     have HF:=hdq (show walkR l x x (n+1)=false from by rw[HW.out,if_neg (by simpa using hq)])
     go_wp2_with fail
     go_quiet (fail)
     go_wp2_with fail
     go_ret
     exact⟨by rw[HF.out];rfl,below_drewN' HN1.out _⟩
    ·have hq':(e.kind != 1)=false:=by rw[bne,hq];rfl
     cases hr:e.to_==x
     ·have HM:=hdq (show walkR l x x (n+1)=walkR l x e.to_ (n+1 - (k+1))from by rw[HW.out,if_pos (by simpa using hq),if_neg (by simpa using hr),show n+1 - (k+1)=n - k from by omega])
      go_wp2_with fail
      go_quiet (fail)
      go_wp2_with fail
      go_quiet (fail)
      go_wp2_with fail
      go_roundw
      case rel=>exact⟨k+1,e.to_,by omega,by rfl,by go_num,HOK,HM,below_drewN' HN1.out _,below_drewN' HN2.out _⟩
      case measure=>simp[intOf];omega
     ·have HF:=hdq (show walkR l x x (n+1)=true from by rw[HW.out,if_pos (by simpa using hq),if_pos (by simpa using hr)])
      go_wp2_with fail
      go_quiet (fail)
      go_wp2_with fail
      go_quiet (fail)
      go_wp2_with fail
      go_ret
      exact⟨by rw[HF.out];rfl,below_drewN' HN1.out _⟩
   ·have HF:=hdq (show walkR l x x (n+1)=false from by rw[hw2,walkR_no h1])
    obtain⟨m,hm⟩:=nmq ((idxE l y l.length).length )
    have hm1:((m:Int)==1)=false:=by
     have:=picks_len l y
     rw[←hm]at this
     simp;omega
    have hm2:((m:Int) != 1)=true:=by rw[bne,hm1];rfl
    have hml:m≤9223372036854775807:=by
     have:=idxE_le l y l.length
     have h2:=HN.out
     omega
    rw[←hm]
    clear hm hs hw2 h1 hn1
    go_wp2_with fail
    go_quiet (fail)
    go_wp2_with fail
    go_ret
    exact⟨by rw[HF.out];rfl,below_drewN' HN1.out _⟩
  ·have hkn:decide ((k:Int)≤(n:Int))=false:=by simp;omega
   have HF:=hdq (show walkR l x x (n+1)=false from by rw[hw.out,show n+1 - k=0 from by omega];rfl)
   clear hb1 hb2 hw
   go_wp2_with fail
   go_ret
   exact⟨by rw[HF.out];rfl,HB1.out⟩
end Go.Proofs.Ytphlnpaikpjakaa
