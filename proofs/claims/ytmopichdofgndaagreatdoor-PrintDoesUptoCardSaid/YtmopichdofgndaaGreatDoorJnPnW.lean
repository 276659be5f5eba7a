/-
  print's writer: expressions written.
-/
import Derived.Test.YtmopichdofgndaaGreatDoorJnPnP
import Derived.Test.YtmopichdofgndaaGreatDoorJnInC
set_option linter.unusedVariables false
set_option linter.unusedSimpArgs false
set_option maxHeartbeats 3200000
set_option maxRecDepth 100000
namespace Go.Proofs.YtmopichdofgndaaGreatDoor
open Go.RowKit Go.Shelf

abbrev Tb (B:Nat) (w:World):Prop:=Lib.TabBelow Tryz.prog B w "internal/strconv.uint64pow10" .u64 Lib.pow10Tab
theorem Went.below {B b:Nat} {v v':Value} {l:List UInt8} {wd:Bool} {w w':World} (h:Went b v v' w w') (hw:WrAt B b v l wd w):Below B w w':=
 h.fr.to_below (leq9 hw.low (Nat.le_of_lt hw.lt)) fun i hi ht=>by
  rcases ht with e|e
  ·have:=hw.low;omega
  ·rcases hw.own.2 with⟨e1,_⟩|⟨g,cap,cur,e1,e2,_⟩
   ·rw[e1]at e;simp[Value.ownBlock]at e
   ·rw[e1]at e
    simp only[Value.ownBlock,Option.some.injEq]at e
    omega
theorem Tb.went {B b:Nat} {v v':Value} {l:List UInt8} {wd:Bool} {w w':World} (ht:Tb B w) (h:Went b v v' w w') (hw:WrAt B b v l wd w):Tb B w':=fun W hb=>ht W ((h.below hw).trans hb)
theorem Tb.fr {B:Nat} {w w':World} (ht:Tb B w) (hf:Fr NoT w w') (hB:B≤w.heap.size):Tb B w':=fun W hb=>ht W ((hf.to_below hB fun _ _ h=>h).trans hb)
theorem grow_fr (w:World) (k:Nat) (os:Array Obj):Fr NoT w (Go.Sort.grow (w.drewN k) os):=by
 refine⟨rfl,rfl,rfl,by simp[Go.Sort.grow],fun i hi _=>?_⟩
 show(w.heap++os)[i]?=w.heap[i]?
 rw[Array.getElem?_append_left hi]
theorem itoa_fr (n:Int) (hn:in64 n) {B:Nat} {w:World} (ht:Tb B w):Calls Tryz.prog 39 #[.int .i64 n] w fun e w'=>e= .returned (.string ⟨(Lib.itoa n).toArray⟩)∧Fr NoT w w':=by
 refine(Tryz.strconv_Itoa n hn.1 (by have:=hn.2;omega) w ht.here).mono ?_
 rintro e w' ⟨rfl,j,os,rfl⟩
 exact⟨rfl,grow_fr _ _ _⟩
theorem WrAt.drew {B b:Nat} {v:Value} {l:List UInt8} {wd:Bool} {w:World} (h:WrAt B b v l wd w):WrAt B b v l wd w.drew:=h.fr ((Fr.refl _ _).drew)
theorem WrAt.base {B b:Nat} {v:Value} {l:List UInt8} {wd:Bool} {w:World} (h:WrAt B b v l wd w):B≤w.heap.size:=leq9 h.low (Nat.le_of_lt h.lt)
def PX (k:Int) (nm:ByteArray) (n:Int) (args:Exs):Prop:=∀(at_:Int) (B b:Nat) (v:Value) (l:List UInt8) (wd:Bool) (w:World) (S:Nat→Prop) (Z:Prop) (A:Option Addr) (c least:Nat),WrAt B b v l wd w→Tb B w→(∀x,S x→x < B)→SlR (fun b o=>ExR w S Z args b o) args.len 64 A c→in64 n→least≤4→
 l.length+sumT (arE least (lvlE k,innE k nm n (txX args)))≤140737488355328→
 Calls Tryz.prog 165 #[.pointer (some ⟨b,0,none⟩),.agg #[.int .u8 k,.string nm,.int .i64 n,.slice A args.len c,.int .i64 at_],.int .i64 least] w (PutW B b v (putsT (l,wd) (arE least (lvlE k,innE k nm n (txX args)))) (.tuple #[]) w)
def PXs (xs:Exs):Prop:=∀(i:Nat) (k:Int) (nm:ByteArray) (n:Int) (args:Exs) (at_:Int) (r:Exs),Exs.drop i xs= .cons k nm n args at_ r→PX k nm n args
def sgnV:Array Value:= #[.string ⟨#[43]⟩,.string ⟨#[45]⟩,.string ⟨#[42]⟩,.string ⟨#[47]⟩,.string ⟨#[37]⟩,.string ⟨#[60,60]⟩,.string ⟨#[62,62]⟩]
structure XIn (w:World) (b:Nat) (v:Value) (g0 g1 g2 g3:Nat) (k:Int) (nm:ByteArray) (n:Int) (sl:Value) (at_ lv:Int):Prop where
 k0:Bk w g0 41 #[.int .u8 k,.string nm,.int .i64 n,sl,.int .i64 at_]
 k1:Bk w g1 88 #[.pointer (some ⟨b,0,none⟩)]
 k2:Bk w g2 3 #[.int .i64 lv]
 k3:Bk w g3 259 sgnV
 n0:¬Own b v g0
 n1:¬Own b v g1
 n2:¬Own b v g2
 n3:¬Own b v g3
theorem XIn.up {w w':World} {b:Nat} {v v':Value} {g0 g1 g2 g3:Nat} {k:Int} {nm:ByteArray} {n:Int} {sl:Value} {at_ lv:Int} (h:XIn w b v g0 g1 g2 g3 k nm n sl at_ lv) (hg:Went b v v' w w'):XIn w' b v' g0 g1 g2 g3 k nm n sl at_ lv:=
 ⟨(hg.bk h.k0 h.n0).1,(hg.bk h.k1 h.n1).1,(hg.bk h.k2 h.n2).1,(hg.bk h.k3 h.n3).1,(hg.bk h.k0 h.n0).2,(hg.bk h.k1 h.n1).2,(hg.bk h.k2 h.n2).2,(hg.bk h.k3 h.n3).2⟩
theorem nm_ne {nm:ByteArray} (h:nameB nm.data.toList=true):nm.data.toList≠ []:=by
 intro e
 rw[e]at h
 simp[nameB,runB]at h
theorem ExR.first {w:World} {S:Nat→Prop} {Z:Prop} {k:Int} {nm:ByteArray} {n:Int} {args:Exs} {at_:Int} {r:Exs} {b o:Nat} (h:ExR w S Z (.cons k nm n args at_ r) b o):∃A c,SlR (fun b' o'=>ExR w S Z args b' o') args.len 64 A c∧in64 n∧S b∧
  w.cell? ⟨b,o,none⟩=some (.int .u8 k)∧w.cell? ⟨b,o+1,none⟩=some (.string nm)∧w.cell? ⟨b,o+2,none⟩=some (.int .i64 n)∧w.cell? ⟨b,o+3,none⟩=some (.slice A args.len c)∧w.cell? ⟨b,o+4,none⟩=some (.int .i64 at_):=by
 obtain⟨⟨h1,_,_,h2,_,c0,c1,c2,c4⟩,⟨A,c,c3,s3⟩,_⟩:=h
 exact⟨A,c,s3,h2,h1,c0,c1,c2,c3,c4⟩
theorem ExR.second {w:World} {S:Nat→Prop} {Z:Prop} {k:Int} {nm:ByteArray} {n:Int} {args:Exs} {at_:Int} {r:Exs} {b o:Nat} (h:ExR w S Z (.cons k nm n args at_ r) b o):ExR w S Z r b (o+5):=h.2.2
theorem px_num (n at_:Int) (nm:ByteArray) (hn:in64 n) {B b:Nat} {v:Value} {l:List UInt8} {wd:Bool} {w:World} {g0 g1 g2 g3:Nat} {lv:Int} {sl:Value} (h:WrAt B b v l wd w) (ht:Tb B w) (hk:XIn w b v g0 g1 g2 g3 1 nm n sl at_ lv) (hlen:l.length+sumT [Lib.itoa n]≤140737488355328) (hne:Lib.itoa n≠ []):
  Calls Tryz.prog 202 #[.pointer (some ⟨g0,0,none⟩),.pointer (some ⟨g1,0,none⟩),.pointer (some ⟨g2,0,none⟩),.pointer (some ⟨g3,0,none⟩)] w (PutW B b v (putsT (l,wd) [Lib.itoa n]) (.tuple #[]) w):=by
 have x0:=hk.k0.cell 0
 have x2:=hk.k0.cell 2
 have xl:=hk.k0.lt
 have y0:=hk.k1.cell 0
 have yl:=hk.k1.lt
 simp only[getsL]at x0 x2 y0
 have HS:Hid (∀W' v',Went b v v' w W'→W'.cell? ⟨g1,0,none⟩=some (.pointer (some ⟨b,0,none⟩))∧W'.cell? ⟨g0,2,none⟩=some (.int .i64 n)):=
  hdq (fun W' v' hg=>⟨(hk.up hg).k1.cell 0,(hk.up hg).k0.cell 2⟩)
 have HI:=hdq (itoa_fr n hn (ht.fr ((Fr.refl NoT w).drew) h.base))
 have HP:=hdq (fun(w0:World) (h0:WrAt B b v l wd w0)=>put1 h0 ⟨(Lib.itoa n).toArray⟩ (Lib.itoa n) (by simp) hne hlen)
 have HW:=hdq h
 clear h ht hk hlen hne hn
 go_enter Tryz.func202,Tryz.ntmps202
 go_wp2_with fail
 refine wp_region_E (fun W'=>W'.cell? ⟨g1,0,none⟩=some (.pointer (some ⟨b,0,none⟩))∧W'.cell? ⟨g0,2,none⟩=some (.int .i64 n)) (fun _=>true) (by kernel_rfl) (HS.out _ v (Went.of ((Fr.refl _ _).drew))) (fun hHeld=>?_)
 refine wpE_tk 0 hHeld ?_
 try simp only[putsL]
 refine wpE_pu 1 ?_
 try simp only[putsL]
 refine wpE_tk 2 hHeld ?_
 try simp only[putsL]
 refine wpE_next 3 rfl (by kernel_rfl) (fun KK hK=>?_)
 go_simp
 go_at_call 39
 refine HI.out.mono ?_
 rintro _ w5 ⟨rfl,hf5⟩
 have hg5:=Went.of (b:=b) (v:=v) (((Fr.refl NoT w).drew).trans hf5)
 have hs5:=HS.out w5 v hg5
 have H5:=hdq (HW.out.fr (((Fr.refl NoT w).drew).trans hf5))
 have HG5:=hdq hg5
 have HA5:=hdq (HS.out _ v (hg5.trans (Went.of ((Fr.refl _ _).alloc (.cells #[.string ⟨(Lib.itoa n).toArray⟩] 9)))))
 try dsimp only
 refine hK _ _ (fun _ _=>hs5) ?_
 clear hK KK hHeld hf5 hg5 hs5 x0 x2 xl y0 yl
 try simp only[putsL]
 refine wpE_next 4 rfl (by kernel_rfl) (fun KK hK=>?_)
 go_simp
 refine hK _ _ (fun _ _=>HA5.out) ?_
 clear hK KK
 try simp only[putsL]
 refine wpE_next 5 rfl (by kernel_rfl) (fun KK hK=>?_)
 go_simp
 go_at_call 35
 refine(HP.out _ H5.out).mono ?_
 rintro _ w6 ⟨v6,rfl,h6,hg6⟩
 have hs6:=HS.out w6 v6 (HG5.out.trans hg6)
 have H6:=hdq (aiq h6 (HG5.out.trans hg6))
 try dsimp only
 refine hK _ _ (fun _ _=>hs6) ?_
 clear hK KK hs6 h6 hg6
 try simp only[putsL]
 refine wpE_done (by kernel_rfl) ?_
 go_wp2_with fail
 go_end0
 exact⟨v6,rfl,H6.out.1,H6.out.2⟩
theorem px_load (nm:ByteArray) (n at_:Int) (k1:Int) (nm1:ByteArray) (n1:Int) (b1:Exs) (at1:Int) (ih:PX k1 nm1 n1 b1) (hnm:nm.data.toList≠ []) {B b:Nat} {v:Value} {l:List UInt8} {wd:Bool} {w:World} {S:Nat→Prop} {Z:Prop} {A:Option Addr} {c g0 g1 g2 g3:Nat} {lv:Int}
  (h:WrAt B b v l wd w) (ht:Tb B w) (hS:∀x,S x→x < B) (hx:SlR (fun b o=>ExR w S Z (.cons k1 nm1 n1 b1 at1 .nil) b o) 1 64 A c) (hk:XIn w b v g0 g1 g2 g3 3 nm n (.slice A 1 c) at_ lv)
  (hlen:l.length+sumT ([nm.data.toList, [91]]++(arE 0 (lvlE k1,innE k1 nm1 n1 (txX b1))++ [[93]]))≤140737488355328):
  Calls Tryz.prog 202 #[.pointer (some ⟨g0,0,none⟩),.pointer (some ⟨g1,0,none⟩),.pointer (some ⟨g2,0,none⟩),.pointer (some ⟨g3,0,none⟩)] w (PutW B b v (putsT (l,wd) ([nm.data.toList, [91]]++(arE 0 (lvlE k1,innE k1 nm1 n1 (txX b1))++ [[93]]))) (.tuple #[]) w):=by
 obtain⟨tx,htx⟩:=nmq (arE 0 (lvlE k1,innE k1 nm1 n1 (txX b1)))
 unfold PX at ih
 rw[←htx]at hlen ⊢
 have hr1:l.length+sumT [nm.data.toList, [91]]≤140737488355328:=by rw[sumT_app]at hlen;omega
 have hr2:=putsT_room (s:=(l,wd)) hlen
 have hr3:=putsT_room hr2
 have hr2':(putsT (l,wd) [nm.data.toList, [91]]).1.length +sumT tx≤140737488355328:=by rw[sumT_app]at hr2;omega
 obtain⟨bA,oA,rfl,hat⟩:=hx.2.2 (by decide)
 have x0:=hk.k0.cell 0
 have x1:=hk.k0.cell 1
 have xl:=hk.k0.lt
 have y0:=hk.k1.cell 0
 have yl:=hk.k1.lt
 simp only[getsL]at x0 x1 y0
 have H1:=hdq (put2 h nm ⟨#[91]⟩ nm.data.toList [91] rfl rfl hnm (by decide) hr1)
 have HR:=hdq (aiq hr2' hr3)
 have HB:=hdq (show ∀w1 v1,Went b v v1 w w1→ExR w1 S Z (.cons k1 nm1 n1 b1 at1 .nil) bA oA∧XIn w1 b v1 g0 g1 g2 g3 3 nm n (.slice (some ⟨bA,oA,none⟩) 1 c) at_ lv∧Tb B w1 from
  fun w1 v1 hg=>⟨ExR.keep (hg.same h hS) hat,hk.up hg,ht.went hg h⟩)
 have HI:=hdq ih
 have HTX:=hdq htx
 have HSB:=hdq hS
 have HE:=hdq (fun(w0:World) (v0:Value) (l0:List UInt8) (wd0:Bool) (h0:WrAt B b v0 l0 wd0 w0) hl=>put1 h0 ⟨#[93]⟩ [93] rfl (by decide) hl)
 clear h ht hS hx hk hlen hr1 hr2 hr3 hr2' hat ih hnm htx
 go_enter Tryz.func202,Tryz.ntmps202
 go_wp2_with fail
 refine H1.out.mono ?_
 rintro _ w1 ⟨v1,rfl,h1,hg1⟩
 obtain⟨hx1,hk1,ht1⟩:=HB.out w1 v1 hg1
 obtain⟨A1,q1,s1,hn1,hbS,c0,c1,c2,c3,c4⟩:=hx1.first
 have x3:=hk1.k0.cell 3
 have xl1:=hk1.k0.lt
 have z0:=hk1.k1.cell 0
 have yl1:=hk1.k1.lt
 simp only[getsL]at x3 z0
 have hlA:bA < w1.heap.size:=ltq (HSB.out _ hbS) h1.base
 have HC:=hdq (HI.out at1 B b v1 _ _ w1.drew S Z A1 q1 0 h1.drew (ht1.fr ((Fr.refl _ _).drew) h1.base) HSB.out (s1.imp fun _ _ hx=>ExR.keep ((Fr.refl NoT w1).drew.same fun x hx=>⟨ltq (HSB.out x hx) h1.base,id⟩) hx) hn1 (by decide) (by rw[←HTX.out];exact HR.out.1))
 rw[←HTX.out]at HC
 have HG1:=hdq (hg1.trans (Went.of ((Fr.refl NoT w1).drew)))
 clear h1 hg1 hx1 hk1 ht1 s1 hbS hn1 x0 x1 xl y0 yl H1
 go_wp2_with fail
 refine wp_region_still_tail 5 (by kernel_rfl) (by kernel_rfl) ?_
 simp only[List.take_succ_cons,List.take_zero,List.drop_succ_cons,List.drop_zero]
 repeat still_step
 try refine wpStill_nil ?_
 go_wp2_with fail
 refine HC.out.mono ?_
 rintro _ w2 ⟨v2,rfl,h2,hg2⟩
 have hg02:=HG1.out.trans hg2
 obtain⟨hx2,hk2,ht2⟩:=HB.out w2 v2 hg02
 have z2:=hk2.k1.cell 0
 have yl2:=hk2.k1.lt
 simp only[getsL]at z2
 have HC2:=hdq (HE.out _ _ _ _ h2 HR.out.2)
 have HG2:=hdq hg02
 clear h2 hg2 hg02 hx2 hk2 ht2 c0 c1 c2 c3 c4 x3 xl1 z0 yl1 hlA HC
 go_wp2_with fail
 refine HC2.out.mono ?_
 rintro _ w3 ⟨v3,rfl,h3,hg3⟩
 have H3:=hdq h3
 have G3:=hdq (HG2.out.trans hg3)
 clear h3 hg3
 go_wp2_with fail
 go_end0
 exact⟨v3,rfl,H3.out.puts.puts,G3.out⟩
theorem px_var (nm:ByteArray) (n at_:Int) (hnm:nm.data.toList≠ []) {B b:Nat} {v:Value} {l:List UInt8} {wd:Bool} {w:World} {g0 g1 g2 g3:Nat} {lv:Int} {sl:Value} (h:WrAt B b v l wd w) (hk:XIn w b v g0 g1 g2 g3 2 nm n sl at_ lv) (hlen:l.length+sumT [nm.data.toList]≤140737488355328):
  Calls Tryz.prog 202 #[.pointer (some ⟨g0,0,none⟩),.pointer (some ⟨g1,0,none⟩),.pointer (some ⟨g2,0,none⟩),.pointer (some ⟨g3,0,none⟩)] w (PutW B b v (putsT (l,wd) [nm.data.toList]) (.tuple #[]) w):=by
 have x0:=hk.k0.cell 0
 have x1:=hk.k0.cell 1
 have xl:=hk.k0.lt
 have y0:=hk.k1.cell 0
 have yl:=hk.k1.lt
 simp only[getsL]at x0 x1 y0
 have H1:=hdq (put1 h nm nm.data.toList rfl hnm hlen)
 clear h hk hlen hnm
 go_enter Tryz.func202,Tryz.ntmps202
 go_wp2_with fail
 refine H1.out.mono ?_
 rintro _ w1 ⟨v1,rfl,h1,hg1⟩
 have HF:=hdq (aiq h1 hg1)
 clear h1 hg1 H1
 go_wp2_with fail
 go_end0
 exact⟨v1,rfl,HF.out.1,HF.out.2⟩
theorem px_neg (nm:ByteArray) (n at_:Int) (k1:Int) (nm1:ByteArray) (n1:Int) (b1:Exs) (at1:Int) (ih:PX k1 nm1 n1 b1) {B b:Nat} {v:Value} {l:List UInt8} {wd:Bool} {w:World} {S:Nat→Prop} {Z:Prop} {A:Option Addr} {c g0 g1 g2 g3:Nat} {lv:Int}
  (h:WrAt B b v l wd w) (ht:Tb B w) (hS:∀x,S x→x < B) (hx:SlR (fun b o=>ExR w S Z (.cons k1 nm1 n1 b1 at1 .nil) b o) 1 64 A c) (hk:XIn w b v g0 g1 g2 g3 4 nm n (.slice A 1 c) at_ lv)
  (hlen:l.length+sumT ([[45]]++arE 4 (lvlE k1,innE k1 nm1 n1 (txX b1)))≤140737488355328):
  Calls Tryz.prog 202 #[.pointer (some ⟨g0,0,none⟩),.pointer (some ⟨g1,0,none⟩),.pointer (some ⟨g2,0,none⟩),.pointer (some ⟨g3,0,none⟩)] w (PutW B b v (putsT (l,wd) ([[45]]++arE 4 (lvlE k1,innE k1 nm1 n1 (txX b1)))) (.tuple #[]) w):=by
 obtain⟨tx,htx⟩:=nmq (arE 4 (lvlE k1,innE k1 nm1 n1 (txX b1)))
 unfold PX at ih
 rw[←htx]at hlen ⊢
 have hr1:l.length+sumT [[45]]≤140737488355328:=by rw[sumT_app]at hlen;omega
 have hr2':(putsT (l,wd) [[45]]).1.length +sumT tx≤140737488355328:=putsT_room (s:=(l,wd)) hlen
 obtain⟨bA,oA,rfl,hat⟩:=hx.2.2 (by decide)
 have x0:=hk.k0.cell 0
 have xl:=hk.k0.lt
 have y0:=hk.k1.cell 0
 have yl:=hk.k1.lt
 simp only[getsL]at x0 y0
 have H1:=hdq (put1 h ⟨#[45]⟩ [45] rfl (by decide) hr1)
 have HR:=hdq hr2'
 have HB:=hdq (show ∀w1 v1,Went b v v1 w w1→ExR w1 S Z (.cons k1 nm1 n1 b1 at1 .nil) bA oA∧XIn w1 b v1 g0 g1 g2 g3 4 nm n (.slice (some ⟨bA,oA,none⟩) 1 c) at_ lv∧Tb B w1 from
  fun w1 v1 hg=>⟨ExR.keep (hg.same h hS) hat,hk.up hg,ht.went hg h⟩)
 have HI:=hdq ih
 have HTX:=hdq htx
 have HSB:=hdq hS
 clear h ht hS hx hk hlen hr1 hr2' hat ih htx
 go_enter Tryz.func202,Tryz.ntmps202
 go_wp2_with fail
 refine H1.out.mono ?_
 rintro _ w1 ⟨v1,rfl,h1,hg1⟩
 obtain⟨hx1,hk1,ht1⟩:=HB.out w1 v1 hg1
 obtain⟨A1,q1,s1,hn1,hbS,c0,c1,c2,c3,c4⟩:=hx1.first
 have x3:=hk1.k0.cell 3
 have xl1:=hk1.k0.lt
 have z0:=hk1.k1.cell 0
 have yl1:=hk1.k1.lt
 simp only[getsL]at x3 z0
 have hlA:bA < w1.heap.size:=ltq (HSB.out _ hbS) h1.base
 have HC:=hdq (HI.out at1 B b v1 _ _ w1.drew S Z A1 q1 4 h1.drew (ht1.fr ((Fr.refl _ _).drew) h1.base) HSB.out (s1.imp fun _ _ hx=>ExR.keep ((Fr.refl NoT w1).drew.same fun x hx=>⟨ltq (HSB.out x hx) h1.base,id⟩) hx) hn1 (by decide) (by rw[←HTX.out];exact HR.out))
 rw[←HTX.out]at HC
 have HG1:=hdq (hg1.trans (Went.of ((Fr.refl NoT w1).drew)))
 clear h1 hg1 hx1 hk1 ht1 s1 hbS hn1 x0 xl y0 yl H1
 go_wp2_with fail
 refine wp_region_still_tail 5 (by kernel_rfl) (by kernel_rfl) ?_
 simp only[List.take_succ_cons,List.take_zero,List.drop_succ_cons,List.drop_zero]
 repeat still_step
 try refine wpStill_nil ?_
 go_wp2_with fail
 refine HC.out.mono ?_
 rintro _ w2 ⟨v2,rfl,h2,hg2⟩
 have HF:=hdq (aiq h2 (HG1.out.trans hg2))
 clear h2 hg2 c0 c1 c2 c3 c4 x3 xl1 z0 yl1 hlA HC
 go_wp2_with fail
 go_end0
 exact⟨v2,rfl,HF.out.1.puts,HF.out.2⟩
def SgS (b g0 g1 g3:Nat) (k:Int) (j:Nat) (sg:ByteArray) (W':World):Prop:=W'.cell? ⟨g1,0,none⟩=some (.pointer (some ⟨b,0,none⟩))∧W'.cell? ⟨g0,0,none⟩=some (.int .u8 k)∧W'.cell? ⟨g3,j,none⟩=some (.string sg)
theorem px_two (k:Int) (m:Nat) (lv:Int) (sg:ByteArray) (j:Nat) (hk5:(k=5∧m=2∧lv=2∧sg=⟨#[43]⟩∧j=0)∨(k=6∧m=2∧lv=2∧sg=⟨#[45]⟩∧j=1)∨(k=7∧m=3∧lv=3∧sg=⟨#[42]⟩∧j=2)∨(k=8∧m=3∧lv=3∧sg=⟨#[47]⟩∧j=3)∨(k=9∧m=3∧lv=3∧sg=⟨#[37]⟩∧j=4)∨(k=10∧m=1∧lv=1∧sg=⟨#[60,60]⟩∧j=5)∨(k=11∧m=1∧lv=1∧sg=⟨#[62,62]⟩∧j=6))
  (nm:ByteArray) (n at_:Int) (k1:Int) (nm1:ByteArray) (n1:Int) (b1:Exs) (at1:Int) (k2:Int) (nm2:ByteArray) (n2:Int) (b2:Exs) (at2:Int) (ih:PX k1 nm1 n1 b1) (ih2:PX k2 nm2 n2 b2) {B b:Nat} {v:Value} {l:List UInt8} {wd:Bool} {w:World} {S:Nat→Prop} {Z:Prop} {A:Option Addr} {c g0 g1 g2 g3:Nat}
  (h:WrAt B b v l wd w) (ht:Tb B w) (hS:∀x,S x→x < B) (hx:SlR (fun b o=>ExR w S Z (.cons k1 nm1 n1 b1 at1 (.cons k2 nm2 n2 b2 at2 .nil)) b o) 2 64 A c) (hk:XIn w b v g0 g1 g2 g3 k nm n (.slice A 2 c) at_ lv)
  (hlen:l.length+sumT (arE m (lvlE k1,innE k1 nm1 n1 (txX b1))++([sg.data.toList]++arE (m+1) (lvlE k2,innE k2 nm2 n2 (txX b2))))≤140737488355328):
  Calls Tryz.prog 202 #[.pointer (some ⟨g0,0,none⟩),.pointer (some ⟨g1,0,none⟩),.pointer (some ⟨g2,0,none⟩),.pointer (some ⟨g3,0,none⟩)] w (PutW B b v (putsT (l,wd) (arE m (lvlE k1,innE k1 nm1 n1 (txX b1))++([sg.data.toList]++arE (m+1) (lvlE k2,innE k2 nm2 n2 (txX b2))))) (.tuple #[]) w):=by
 have hm4:m+1≤4:=by omega
 have hsg:sg.data.toList≠ []:=by rcases hk5 with⟨_,_,_,rfl,_⟩|⟨_,_,_,rfl,_⟩|⟨_,_,_,rfl,_⟩|⟨_,_,_,rfl,_⟩|⟨_,_,_,rfl,_⟩|⟨_,_,_,rfl,_⟩|⟨_,_,_,rfl,_⟩<;>decide
 have hsj:sgnV[j]?=some (.string sg):=by rcases hk5 with⟨_,_,_,rfl,rfl⟩|⟨_,_,_,rfl,rfl⟩|⟨_,_,_,rfl,rfl⟩|⟨_,_,_,rfl,rfl⟩|⟨_,_,_,rfl,rfl⟩|⟨_,_,_,rfl,rfl⟩|⟨_,_,_,rfl,rfl⟩<;>rfl
 obtain⟨tx,htx⟩:=nmq (arE m (lvlE k1,innE k1 nm1 n1 (txX b1)))
 obtain⟨ty,hty⟩:=nmq (arE (m+1) (lvlE k2,innE k2 nm2 n2 (txX b2)))
 unfold PX at ih ih2
 rw[←htx,←hty]at hlen ⊢
 have hr1:l.length+sumT tx≤140737488355328:=by rw[sumT_app]at hlen;omega
 have hr2:=putsT_room (s:=(l,wd)) hlen
 have hr2':(putsT (l,wd) tx).1.length +sumT [sg.data.toList]≤140737488355328:=by rw[sumT_app]at hr2;omega
 have hr3:=putsT_room hr2
 obtain⟨bA,oA,rfl,hat⟩:=hx.2.2 (by decide)
 have x0:=hk.k0.cell 0
 have x3:=hk.k0.cell 3
 have xl:=hk.k0.lt
 have y0:=hk.k1.cell 0
 have yl:=hk.k1.lt
 have u0:=hk.k2.cell 0
 have ul:=hk.k2.lt
 simp only[getsL]at x0 x3 y0 u0
 obtain⟨A1,q1,s1,hn1,hbS,c0,c1,c2,c3,c4⟩:=hat.first
 have hlA:bA < w.heap.size:=ltq (hS _ hbS) h.base
 have HC:=hdq (ih at1 B b v _ _ w.drew S Z A1 q1 m h.drew (ht.fr ((Fr.refl _ _).drew) h.base) hS (s1.imp fun _ _ hx=>ExR.keep ((Fr.refl NoT w).drew.same fun x hx=>⟨ltq (hS x hx) h.base,id⟩) hx) hn1 (by omega) (by rw[←htx];exact hr1))
 rw[←htx]at HC
 have HR:=hdq (aiq hr2' hr3)
 have HB:=hdq (show ∀w1 v1,Went b v v1 w w1→ExR w1 S Z (.cons k1 nm1 n1 b1 at1 (.cons k2 nm2 n2 b2 at2 .nil)) bA oA∧XIn w1 b v1 g0 g1 g2 g3 k nm n (.slice (some ⟨bA,oA,none⟩) 2 c) at_ lv∧Tb B w1 from
  fun w1 v1 hg=>⟨ExR.keep (hg.same h hS) hat,hk.up hg,ht.went hg h⟩)
 have HS:=hdq (show ∀W' v',Went b v v' w W'→SgS b g0 g1 g3 k j sg W' from fun W' v' hg=>⟨(HB.out _ _ hg).2.1.k1.cell 0,(HB.out _ _ hg).2.1.k0.cell 0,((HB.out _ _ hg).2.1.k3.cell j).trans hsj⟩)
 have HI:=hdq ih2
 have HTY:=hdq hty
 have HSB:=hdq hS
 have HM4:=hdq hm4
 have HE:=hdq (fun(w0:World) (v0:Value) (l0:List UInt8) (wd0:Bool) (h0:WrAt B b v0 l0 wd0 w0) hl=>put1 h0 sg sg.data.toList rfl hsg hl)
 clear h ht hS hx hk hlen hr1 hr2 hr3 hr2' hat ih ih2 htx hty hm4 hsj hsg s1 hn1 hbS
 have wr0:IntKind.u8.wrap 0=0:=by decide
 have wr1:IntKind.u8.wrap 1=1:=by decide
 have wr2:IntKind.u8.wrap 2=2:=by decide
 have wr3:IntKind.u8.wrap 3=3:=by decide
 have wr4:IntKind.u8.wrap 4=4:=by decide
 have wr5:IntKind.u8.wrap 5=5:=by decide
 have wr6:IntKind.u8.wrap 6=6:=by decide
 rcases hk5 with⟨rfl,rfl,rfl,rfl,rfl⟩|⟨rfl,rfl,rfl,rfl,rfl⟩|⟨rfl,rfl,rfl,rfl,rfl⟩|⟨rfl,rfl,rfl,rfl,rfl⟩|⟨rfl,rfl,rfl,rfl,rfl⟩|⟨rfl,rfl,rfl,rfl,rfl⟩|⟨rfl,rfl,rfl,rfl,rfl⟩
 all_goals
  go_enter Tryz.func202,Tryz.ntmps202
  go_wp2_with fail
  refine wp_region_still_tail 6 (by kernel_rfl) (by kernel_rfl) ?_
  simp only[List.take_succ_cons,List.take_zero,List.drop_succ_cons,List.drop_zero]
  repeat still_step
  try refine wpStill_nil ?_
  go_wp2_with fail
  refine HC.out.mono ?_
  rintro _ w1 ⟨v1,rfl,h1,hg1⟩
  have hg01:=(Went.of (b:=b) (v:=v) ((Fr.refl NoT w).drew)).trans hg1
  clear x0 x3 xl y0 yl u0 ul c0 c1 c2 c3 c4 hlA HC
  have H1:=hdq (aiq h1 hg01)
  clear h1 hg1 hg01
  go_wp2_with fail
  refine wp_region_E (SgS b g0 g1 g3 _ _ _) (fun _=>true) (by kernel_rfl) (HS.out _ v1 (H1.out.2.trans (Went.of ((Fr.refl _ _).drew)))) (fun hHeld=>?_)
  refine wpE_take 0 (v:=?_) rfl (by kernel_rfl) (fun _ _ _ h=>h) hHeld (by rfl) ?_ ?_;rotate_left
  ·intro wz hSz;(try dsimp only[SgS]at hSz);go_simp;try with_reducible rfl
  try simp only[putsL]
  refine wpE_pu 1 ?_
  try simp only[putsL]
  refine wpE_take 2 (v:=?_) rfl (by kernel_rfl) (fun _ _ _ h=>h) hHeld (by rfl) ?_ ?_;rotate_left
  ·intro wz hSz;(try dsimp only[SgS]at hSz);go_simp;try with_reducible rfl
  try simp only[putsL]
  refine wpE_pu 3 ?_
  try simp only[putsL]
  refine wpE_pu 4 ?_
  try simp only[putsL]
  refine wpE_take 5 (v:=?_) rfl (by kernel_rfl) (fun _ _ _ h=>h) hHeld (by rfl) ?_ ?_;rotate_left
  ·intro wz hSz;(try dsimp only[SgS]at hSz);go_simp;try with_reducible rfl
  try simp only[putsL]
  refine wpE_next 6 rfl (by kernel_rfl) (fun KK hK=>?_)
  go_simp
  refine hK _ _ (fun _ _=>HS.out _ v1 (H1.out.2.trans (Went.of (((Fr.refl NoT w1).drew).alloc _)))) ?_
  clear hK KK hHeld
  try simp only[putsL]
  refine wpE_next 7 rfl (by kernel_rfl) (fun KK hK=>?_)
  go_simp
  go_at_call 35
  refine(HE.out _ _ _ _ H1.out.1.drew HR.out.1).mono ?_
  rintro _ w2 ⟨v2,rfl,h2,hg2⟩
  have hg12:=(Went.of (b:=b) (v:=v1) ((Fr.refl NoT w1).drew)).trans hg2
  have hg02:=H1.out.2.trans hg12
  have hs2:=HS.out w2 v2 hg02
  have H2:=hdq (aiq h2 hg02)
  try dsimp only
  refine hK _ _ (fun _ _=>hs2) ?_
  clear hK KK hs2 h2 hg2 hg02 hg12 HS H1
  try simp only[putsL]
  refine wpE_done (by kernel_rfl) ?_
  obtain⟨hx2,hk2,ht2⟩:=HB.out w2 v2 H2.out.2
  obtain⟨A2,q2,s2,hn2,hbS,c0,c1,c2,c3,c4⟩:=hx2.second.first
  have x3:=hk2.k0.cell 3
  have xl:=hk2.k0.lt
  have y0:=hk2.k1.cell 0
  have yl:=hk2.k1.lt
  have u0:=hk2.k2.cell 0
  have ul:=hk2.k2.lt
  simp only[getsL]at x3 y0 u0
  have hB2:=H2.out.1.base
  have hlA:bA < w2.heap.size:=ltq (HSB.out _ hbS) hB2
  have HC:=hdq (HI.out at2 B b v2 _ _ w2.drew S Z A2 q2 _ H2.out.1.drew (ht2.fr ((Fr.refl _ _).drew) hB2) HSB.out (s2.imp fun _ _ hx=>ExR.keep ((Fr.refl NoT w2).drew.same fun x hx=>⟨ltq (HSB.out x hx) hB2,id⟩) hx) hn2 HM4.out (by rw[←HTY.out];exact HR.out.2))
  rw[←HTY.out]at HC
  clear hx2 hk2 ht2 s2 hn2 hbS hB2
  go_wp2_with fail
  refine wp_region_still_tail 7 (by kernel_rfl) (by kernel_rfl) ?_
  simp only[List.take_succ_cons,List.take_zero,List.drop_succ_cons,List.drop_zero]
  repeat still_step
  try refine wpStill_nil ?_
  go_wp2_with fail
  refine HC.out.mono ?_
  rintro _ w3 ⟨v3,rfl,h3,hg3⟩
  have HF:=hdq (aiq h3 (H2.out.2.trans ((Went.of (b:=b) (v:=v2) ((Fr.refl NoT w2).drew)).trans hg3)))
  clear h3 hg3 x3 xl y0 yl u0 ul c0 c1 c2 c3 c4 hlA HC H2
  go_wp2_with fail
  go_end0
  exact⟨v3,rfl,HF.out.1.puts.puts,HF.out.2⟩

theorem px_in (k:Int) (nm:ByteArray) (n at_:Int) (args:Exs) (hk:okE k nm n args at_=true) (ih:PXs args) {B b:Nat} {v:Value} {l:List UInt8} {wd:Bool} {w:World} {S:Nat→Prop} {Z:Prop} {A:Option Addr} {c g0 g1 g2 g3:Nat}
    (h:WrAt B b v l wd w) (ht:Tb B w) (hS:∀x,S x→x < B) (hx:SlR (fun b o=>ExR w S Z args b o) args.len 64 A c) (hn:in64 n) (hi:XIn w b v g0 g1 g2 g3 k nm n (.slice A args.len c) at_ (lvlE k)) (hlen:l.length+sumT (innE k nm n (txX args))≤140737488355328):
    Calls Tryz.prog 202 #[.pointer (some ⟨g0,0,none⟩),.pointer (some ⟨g1,0,none⟩),.pointer (some ⟨g2,0,none⟩),.pointer (some ⟨g3,0,none⟩)] w (PutW B b v (putsT (l,wd) (innE k nm n (txX args))) (.tuple #[]) w):=by
  simp only[okE,Bool.and_eq_true,Bool.or_eq_true,decide_eq_true_eq,beq_iff_eq]at hk
  obtain⟨⟨⟨⟨⟨⟨h1,h2⟩,h3⟩,h4⟩,h5⟩,h6⟩,h7⟩:=hk
  have hk:k=1∨k=2∨k=3∨k=4∨5≤k:=by omega
  rcases hk with rfl|rfl|rfl|rfl|h5k
  · have hne:Lib.itoa n≠ []:=by
      obtain⟨u,rfl⟩:∃u:Nat,n=u:=⟨n.toNat,by omega⟩
      rw[Lib.itoa_nonneg]
      exact dec_ne u
    exact px_num n at_ nm hn h ht hi hlen hne
  · exact px_var nm n at_ (nm_ne (nm_yes h5)) h hi hlen
  · obtain⟨k',nm',n',b',at',rfl⟩:=len1 (a:=args) (by simp[tabA,exShp]at h6;omega)
    exact px_load nm n at_ k' nm' n' b' at' (ih 0 _ _ _ _ _ _ rfl) (nm_ne (nm_yes h5)) h ht hS hx hi hlen
  · obtain⟨k',nm',n',b',at',rfl⟩:=len1 (a:=args) (by simp[tabA,exShp]at h6;omega)
    exact px_neg nm n at_ k' nm' n' b' at' (ih 0 _ _ _ _ _ _ rfl) h ht hS hx hi hlen
  · have hk:k=5∨k=6∨k=7∨k=8∨k=9∨k=10∨k=11:=by omega
    obtain⟨k1,nm1,n1,b1,at1,k2,nm2,n2,b2,at2,rfl⟩:=len2 (a:=args) (by
      have:(tabA exShp k).1 =2:=by rcases hk with rfl|rfl|rfl|rfl|rfl|rfl|rfl<;>rfl
      rw[this]at h6
      omega)
    have i1:=ih 0 _ _ _ _ _ _ rfl
    have i2:=ih 1 _ _ _ _ _ _ rfl
    rcases hk with rfl|rfl|rfl|rfl|rfl|rfl|rfl
    · exact px_two 5 2 2 ⟨#[43]⟩ 0 (by simp) nm n at_ k1 nm1 n1 b1 at1 k2 nm2 n2 b2 at2 i1 i2 h ht hS hx hi hlen
    · exact px_two 6 2 2 ⟨#[45]⟩ 1 (by simp) nm n at_ k1 nm1 n1 b1 at1 k2 nm2 n2 b2 at2 i1 i2 h ht hS hx hi hlen
    · exact px_two 7 3 3 ⟨#[42]⟩ 2 (by simp) nm n at_ k1 nm1 n1 b1 at1 k2 nm2 n2 b2 at2 i1 i2 h ht hS hx hi hlen
    · exact px_two 8 3 3 ⟨#[47]⟩ 3 (by simp) nm n at_ k1 nm1 n1 b1 at1 k2 nm2 n2 b2 at2 i1 i2 h ht hS hx hi hlen
    · exact px_two 9 3 3 ⟨#[37]⟩ 4 (by simp) nm n at_ k1 nm1 n1 b1 at1 k2 nm2 n2 b2 at2 i1 i2 h ht hS hx hi hlen
    · exact px_two 10 1 1 ⟨#[60,60]⟩ 5 (by simp) nm n at_ k1 nm1 n1 b1 at1 k2 nm2 n2 b2 at2 i1 i2 h ht hS hx hi hlen
    · exact px_two 11 1 1 ⟨#[62,62]⟩ 6 (by simp) nm n at_ k1 nm1 n1 b1 at1 k2 nm2 n2 b2 at2 i1 i2 h ht hS hx hi hlen
theorem px_one (k:Int) (nm:ByteArray) (n:Int) (args:Exs) (hk:∀at_,okE k nm n args at_=true) (ih:PXs args):PX k nm n args:=by
  intro at_ B b v l wd w S Z A c least h ht hS hx hn hle hlen
  have hk8:in8 k:=by
    have:=hk at_
    simp only[okE,Bool.and_eq_true,decide_eq_true_eq]at this
    exact⟨by omega,by omega⟩
  have hent:Enters Tryz.prog 202:=enters_of Tryz.func202 (by kernel_rfl) rfl
  have HIN:=hdq (fun(wx:World) (g0 g1 g2 g3:Nat) (hf:Fr NoT w wx) (hi:XIn wx b v g0 g1 g2 g3 k nm n (.slice A args.len c) at_ (lvlE k))=>
    show Puts 202 #[.pointer (some ⟨g0,0,none⟩),.pointer (some ⟨g1,0,none⟩),.pointer (some ⟨g2,0,none⟩),.pointer (some ⟨g3,0,none⟩)] B b v wx (innE k nm n (txX args))from
    fun v1 l1 wd1 w1 h1 hg hl1=>px_in k nm n at_ args (hk at_) ih h1 ((ht.fr hf h.base).went hg (h.fr hf)) hS (hx.imp fun _ _ hx=>ExR.keep (((hf.same fun x hx=>⟨ltq (hS x hx) h.base,id⟩)).trans (hg.same (h.fr hf) hS)) hx) hn (hi.up hg) hl1)
  have HLV:=hdq (level_any k)
  obtain⟨m,hm⟩:=nmq (lvlE k)
  have hm4 : m ≤ 4 := by rw [hm]; unfold lvlE; repeat' split
                         all_goals omega
  have HAR:=hdq (fun(wx:World) (hf:Fr NoT w wx) (g:Nat) (cap:Array Value) (hP:Puts g cap B b v wx (innE k nm n (txX args))) (hent:Enters Tryz.prog g)=>
    around_any (h.fr hf) g cap (innE k nm n (txX args)) hP hent (decide (m < least)) ⟨#[40]⟩ ⟨#[41]⟩ [40] [41] rfl rfl (by decide) (by decide) (by
      unfold arE at hlen
      rw[←hm]at hlen
      simpa using hlen))
  have HEQ:=hdq (show arE least (lvlE k,innE k nm n (txX args))=(if decide (m < least)=true then [40]::(innE k nm n (txX args)++ [[41]])else innE k nm n (txX args))from by
    unfold arE
    rw[←hm]
    simp)
  rw[HEQ.out]
  rw[←hm]at HLV HIN
  obtain⟨tx,htx⟩:=nmq (innE k nm n (txX args))
  rw[←htx]at HIN HAR ⊢
  obtain⟨tz,htz⟩:=nmq ((if decide (m < least)=true then [40]::(tx++ [[41]])else tx))
  rw[←htz]at HAR ⊢
  obtain⟨al,hal⟩:=nmq args.len
  rw[←hal]at HIN ⊢
  obtain⟨W,hW⟩:=nmq ((((w.alloc (.cells #[.pointer (some ⟨b,0,none⟩)] 88)).alloc (.cells #[.int .u8 k,.string nm,.int .i64 n,.slice A al c,.int .i64 at_] 41)).alloc (.cells #[.string ⟨#[43]⟩,.string ⟨#[45]⟩,.string ⟨#[42]⟩,.string ⟨#[47]⟩,.string ⟨#[37]⟩,.string ⟨#[60,60]⟩,.string ⟨#[62,62]⟩] 259)).alloc (.cells #[.int .i64 m] 3))
  have HF:=hdq (show Fr NoT w W from by rw[hW];exact((((Fr.refl _ _).alloc _).alloc _).alloc _).alloc _)
  have HX:=hdq (show XIn W b v (w.heap.size+1) w.heap.size (w.heap.size+1+1+1) (w.heap.size+1+1) k nm n (.slice A al c) at_ m from by
    rw[hW]
    exact⟨((Bk.new_at _ _ _ (n:=w.heap.size+1) (by simp)).alloc _).alloc _,(((Bk.new w _ _).alloc _).alloc _).alloc _,Bk.new_at _ _ _ (by simp),(Bk.new_at _ _ _ (n:=w.heap.size+1+1) (by simp)).alloc _,h.new (by omega),h.new (by omega),h.new (by omega),h.new (by omega)⟩)
  have HWE:=hdq hW
  clear h ht hS hx hn hlen hk ih HEQ hm htx hal hW htz
  go_enter Tryz.func165,Tryz.ntmps165
  go_wp2_with fail
  refine(HLV.out _).mono ?_
  rintro _ _ ⟨rfl,rfl⟩
  go_wp2_with fail
  rw[←HWE.out]
  refine(HAR.out W HF.out _ _ (HIN.out W _ _ _ _ HF.out HX.out) hent).mono ?_
  rintro _ w2 ⟨v2,rfl,h2,hg2⟩
  have H2:=hdq (aiq h2 ((Went.of (b:=b) (v:=v) HF.out).trans hg2))
  clear h2 hg2
  go_wp2_with fail
  go_end0
  exact⟨v2,rfl,H2.out.1,H2.out.2⟩
theorem px_all:∀xs:Exs,okX xs=true→PXs xs
  | .nil,_=>fun i _ _ _ _ _ _ hd=>by cases i<;>simp[Exs.drop]at hd
  | .cons k nm n args at_ rest,h=>fun i _ _ _ _ _ _ hd=>by
    cases i with
    |zero=>
      simp only[Exs.drop]at hd
      injection hd with e1 e2 e3 e4 e5 e6
      subst e1 e2 e3 e4 e5 e6
      have h':=h
      simp only[okX,Bool.and_eq_true]at h'
      exact px_one k nm n args (fun _=>by simp only[okE,Bool.and_eq_true];exact h'.1) (px_all args h'.1.2)
    |succ i=>
      simp only[Exs.drop]at hd
      have h':=h
      simp only[okX,Bool.and_eq_true]at h'
      exact px_all rest h'.2 i _ _ _ _ _ _ hd

def PC (k:Int) (args:Exs) (of_:Cds):Prop:=∀(at_:Int) (B b:Nat) (v:Value) (l:List UInt8) (wd:Bool) (w:World) (S:Nat→Prop) (Z:Prop) (A:Option Addr) (c:Nat) (A':Option Addr) (c' least:Nat),WrAt B b v l wd w→Tb B w→(∀x,S x→x < B)→SlR (fun b o=>ExR w S Z args b o) args.len 64 A c→SlR (fun b o=>CdR w S Z of_ b o) of_.len 64 A' c'→least≤4→
 l.length+sumT (arC least (hgtC k,innC k (txX args) (txC of_)))≤140737488355328→
 Calls Tryz.prog 203 #[.pointer (some ⟨b,0,none⟩),.agg #[.int .u8 k,.slice A args.len c,.slice A' of_.len c',.int .i64 at_],.int .i64 least] w (PutW B b v (putsT (l,wd) (arC least (hgtC k,innC k (txX args) (txC of_)))) (.tuple #[]) w)
def PCs (xs:Cds):Prop:=∀(i:Nat) (k:Int) (args:Exs) (of_:Cds) (at_:Int) (r:Cds),Cds.drop i xs= .cons k args of_ at_ r→PC k args of_
structure CIn (w:World) (b:Nat) (v:Value) (g0 g1 g2:Nat) (k:Int) (s1 s2:Value) (at_ lv:Int):Prop where
 k0:Bk w g0 160 #[.int .u8 k,s1,s2,.int .i64 at_]
 k1:Bk w g1 88 #[.pointer (some ⟨b,0,none⟩)]
 k2:Bk w g2 3 #[.int .i64 lv]
 n0:¬Own b v g0
 n1:¬Own b v g1
 n2:¬Own b v g2
theorem CIn.up {w w':World} {b:Nat} {v v':Value} {g0 g1 g2:Nat} {k:Int} {s1 s2:Value} {at_ lv:Int} (h:CIn w b v g0 g1 g2 k s1 s2 at_ lv) (hg:Went b v v' w w'):CIn w' b v' g0 g1 g2 k s1 s2 at_ lv:=
 ⟨(hg.bk h.k0 h.n0).1,(hg.bk h.k1 h.n1).1,(hg.bk h.k2 h.n2).1,(hg.bk h.k0 h.n0).2,(hg.bk h.k1 h.n1).2,(hg.bk h.k2 h.n2).2⟩
theorem CdR.first {w:World} {S:Nat→Prop} {Z:Prop} {k:Int} {args:Exs} {of_:Cds} {at_:Int} {r:Cds} {b o:Nat} (h:CdR w S Z (.cons k args of_ at_ r) b o):∃A c A' c',SlR (fun b' o'=>ExR w S Z args b' o') args.len 64 A c∧SlR (fun b' o'=>CdR w S Z of_ b' o') of_.len 64 A' c'∧S b∧
  w.cell? ⟨b,o,none⟩=some (.int .u8 k)∧w.cell? ⟨b,o+1,none⟩=some (.slice A args.len c)∧w.cell? ⟨b,o+2,none⟩=some (.slice A' of_.len c')∧w.cell? ⟨b,o+3,none⟩=some (.int .i64 at_):=by
 obtain⟨⟨h1,_,_,_,c0,c3⟩,⟨A,c,c1,s1⟩,⟨A',c',c2,s2⟩,_⟩:=h
 exact⟨A,c,A',c',s1,s2,h1,c0,c1,c2,c3⟩
theorem CdR.second {w:World} {S:Nat→Prop} {Z:Prop} {k:Int} {args:Exs} {of_:Cds} {at_:Int} {r:Cds} {b o:Nat} (h:CdR w S Z (.cons k args of_ at_ r) b o):CdR w S Z r b (o+4):=h.2.2.2
def SgC (b g0 g1 g2:Nat) (k lv:Int) (W':World):Prop:=W'.cell? ⟨g1,0,none⟩=some (.pointer (some ⟨b,0,none⟩))∧W'.cell? ⟨g0,0,none⟩=some (.int .u8 k)∧W'.cell? ⟨g2,0,none⟩=some (.int .i64 lv)
theorem CIn.sg {w:World} {b:Nat} {v:Value} {g0 g1 g2:Nat} {k:Int} {s1 s2:Value} {at_ lv:Int} (h:CIn w b v g0 g1 g2 k s1 s2 at_ lv):SgC b g0 g1 g2 k lv w:=⟨h.k1.cell 0,h.k0.cell 0,h.k2.cell 0⟩
theorem put1_at {B b:Nat} {v:Value} {l:List UInt8} {wd:Bool} {w:World} (h:WrAt B b v l wd w) (s:ByteArray) (t:List UInt8) (hs:s.data.toList=t) (ht:t≠ []) (hlen:l.length+sumT [t]≤140737488355328) (n:Nat) (hn:w.heap.size=n) (W:World) (hW:W=w.alloc (.cells #[.string s] 9)):
  Calls Tryz.prog 35 #[.pointer (some ⟨b,0,none⟩),.slice (some ⟨n,0,none⟩) 1 1] W (PutW B b v (putsT (l,wd) [t]) (.tuple #[]) w):=by
 subst hn hW
 exact put1 h s t hs ht hlen
theorem pc_yes (s1 s2:Value) (at_:Int) {B b:Nat} {v:Value} {l:List UInt8} {wd:Bool} {w:World} {g0 g1 g2:Nat} {lv:Int} (h:WrAt B b v l wd w) (hk:CIn w b v g0 g1 g2 1 s1 s2 at_ lv) (hlen:l.length+sumT [[116,114,117,101]]≤140737488355328):
  Calls Tryz.prog 227 #[.pointer (some ⟨g0,0,none⟩),.pointer (some ⟨g1,0,none⟩),.pointer (some ⟨g2,0,none⟩)] w (PutW B b v (putsT (l,wd) [[116,114,117,101]]) (.tuple #[]) w):=by
 have x0:=hk.k0.cell 0
 have xl:=hk.k0.lt
 have y0:=hk.k1.cell 0
 have yl:=hk.k1.lt
 simp only[getsL]at x0 y0
 have H1:=hdq (put1 h ⟨#[116,114,117,101]⟩ [116,114,117,101] rfl (by decide) hlen)
 clear h hk hlen
 go_enter Tryz.func227,Tryz.ntmps227
 go_wp2_with fail
 refine H1.out.mono ?_
 rintro _ w1 ⟨v1,rfl,h1,hg1⟩
 have HF:=hdq (aiq h1 hg1)
 clear h1 hg1 H1
 go_wp2_with fail
 go_end0
 exact⟨v1,rfl,HF.out.1,HF.out.2⟩
theorem pc_no (s1 s2:Value) (at_:Int) {B b:Nat} {v:Value} {l:List UInt8} {wd:Bool} {w:World} {g0 g1 g2:Nat} {lv:Int} (h:WrAt B b v l wd w) (hk:CIn w b v g0 g1 g2 2 s1 s2 at_ lv) (hlen:l.length+sumT [[102,97,108,115,101]]≤140737488355328):
  Calls Tryz.prog 227 #[.pointer (some ⟨g0,0,none⟩),.pointer (some ⟨g1,0,none⟩),.pointer (some ⟨g2,0,none⟩)] w (PutW B b v (putsT (l,wd) [[102,97,108,115,101]]) (.tuple #[]) w):=by
 have x0:=hk.k0.cell 0
 have xl:=hk.k0.lt
 have y0:=hk.k1.cell 0
 have yl:=hk.k1.lt
 simp only[getsL]at x0 y0
 have H1:=hdq (put1 h ⟨#[102,97,108,115,101]⟩ [102,97,108,115,101] rfl (by decide) hlen)
 clear h hk hlen
 go_enter Tryz.func227,Tryz.ntmps227
 go_wp2_with fail
 refine H1.out.mono ?_
 rintro _ w1 ⟨v1,rfl,h1,hg1⟩
 have HF:=hdq (aiq h1 hg1)
 clear h1 hg1 H1
 go_wp2_with fail
 go_end0
 exact⟨v1,rfl,HF.out.1,HF.out.2⟩
theorem pc_not (at_:Int) (k1:Int) (a1:Exs) (o1:Cds) (at1:Int) (ih:PC k1 a1 o1) {B b:Nat} {v:Value} {l:List UInt8} {wd:Bool} {w:World} {S:Nat→Prop} {Z:Prop} {A:Option Addr} {c:Nat} {s1:Value} {g0 g1 g2:Nat} {lv:Int}
  (h:WrAt B b v l wd w) (ht:Tb B w) (hS:∀x,S x→x < B) (hx:SlR (fun b o=>CdR w S Z (.cons k1 a1 o1 at1 .nil) b o) 1 64 A c) (hk:CIn w b v g0 g1 g2 9 s1 (.slice A 1 c) at_ lv)
  (hlen:l.length+sumT ([[33]]++arC 3 (hgtC k1,innC k1 (txX a1) (txC o1)))≤140737488355328):
  Calls Tryz.prog 227 #[.pointer (some ⟨g0,0,none⟩),.pointer (some ⟨g1,0,none⟩),.pointer (some ⟨g2,0,none⟩)] w (PutW B b v (putsT (l,wd) ([[33]]++arC 3 (hgtC k1,innC k1 (txX a1) (txC o1)))) (.tuple #[]) w):=by
 obtain⟨tx,htx⟩:=nmq (arC 3 (hgtC k1,innC k1 (txX a1) (txC o1)))
 unfold PC at ih
 rw[←htx]at hlen ⊢
 have hr1:l.length+sumT [[33]]≤140737488355328:=by rw[sumT_app]at hlen;omega
 have hr2':=putsT_room (s:=(l,wd)) hlen
 obtain⟨bA,oA,rfl,hat⟩:=hx.2.2 (by decide)
 have x0:=hk.k0.cell 0
 have xl:=hk.k0.lt
 have y0:=hk.k1.cell 0
 have yl:=hk.k1.lt
 simp only[getsL]at x0 y0
 have H1:=hdq (put1 h ⟨#[33]⟩ [33] rfl (by decide) hr1)
 have HR:=hdq hr2'
 have HB:=hdq (show ∀w1 v1,Went b v v1 w w1→CdR w1 S Z (.cons k1 a1 o1 at1 .nil) bA oA∧CIn w1 b v1 g0 g1 g2 9 s1 (.slice (some ⟨bA,oA,none⟩) 1 c) at_ lv∧Tb B w1 from
  fun w1 v1 hg=>⟨CdR.keep (hg.same h hS) hat,hk.up hg,ht.went hg h⟩)
 have HI:=hdq ih
 have HTX:=hdq htx
 have HSB:=hdq hS
 clear h ht hS hx hk hlen hr1 hr2' hat ih htx
 go_enter Tryz.func227,Tryz.ntmps227
 go_wp2_with fail
 refine H1.out.mono ?_
 rintro _ w1 ⟨v1,rfl,h1,hg1⟩
 obtain⟨hx1,hk1,ht1⟩:=HB.out w1 v1 hg1
 obtain⟨A1,q1,A2,q2,s1',s2',hbS,c0,c1,c2,c3⟩:=hx1.first
 have x3:=hk1.k0.cell 2
 have xl1:=hk1.k0.lt
 have z0:=hk1.k1.cell 0
 have yl1:=hk1.k1.lt
 simp only[getsL]at x3 z0
 have hlA:bA < w1.heap.size:=ltq (HSB.out _ hbS) h1.base
 have hsm:=(Fr.refl NoT w1).drew.same fun x hx=>⟨ltq (HSB.out x hx) h1.base,id⟩
 have HC:=hdq (HI.out at1 B b v1 _ _ w1.drew S Z A1 q1 A2 q2 3 h1.drew (ht1.fr ((Fr.refl _ _).drew) h1.base) HSB.out (s1'.imp fun _ _ hx=>ExR.keep hsm hx) (s2'.imp fun _ _ hx=>CdR.keep hsm hx) (by decide) (by rw[←HTX.out];exact HR.out))
 rw[←HTX.out]at HC
 have HG1:=hdq (hg1.trans (Went.of ((Fr.refl NoT w1).drew)))
 clear h1 hg1 hx1 hk1 ht1 s1' s2' hbS hsm x0 xl y0 yl H1
 go_wp2_with fail
 refine wp_region_still_tail 5 (by kernel_rfl) (by kernel_rfl) ?_
 simp only[List.take_succ_cons,List.take_zero,List.drop_succ_cons,List.drop_zero]
 repeat still_step
 try refine wpStill_nil ?_
 go_wp2_with fail
 refine HC.out.mono ?_
 rintro _ w2 ⟨v2,rfl,h2,hg2⟩
 have HF:=hdq (aiq h2 (HG1.out.trans hg2))
 clear h2 hg2 c0 c1 c2 c3 x3 xl1 z0 yl1 hlA HC
 go_wp2_with fail
 go_end0
 exact⟨v2,rfl,HF.out.1.puts,HF.out.2⟩
theorem pc_two (k:Int) (m:Nat) (lv:Int) (sg:ByteArray) (hk5:(k=10∧m=2∧lv=2∧sg=⟨#[38,38]⟩)∨(k=11∧m=1∧lv=1∧sg=⟨#[124,124]⟩))
  (at_:Int) (k1:Int) (a1:Exs) (o1:Cds) (at1:Int) (k2:Int) (a2:Exs) (o2:Cds) (at2:Int) (ih:PC k1 a1 o1) (ih2:PC k2 a2 o2) {B b:Nat} {v:Value} {l:List UInt8} {wd:Bool} {w:World} {S:Nat→Prop} {Z:Prop} {A:Option Addr} {c:Nat} {s1:Value} {g0 g1 g2:Nat}
  (h:WrAt B b v l wd w) (ht:Tb B w) (hS:∀x,S x→x < B) (hx:SlR (fun b o=>CdR w S Z (.cons k1 a1 o1 at1 (.cons k2 a2 o2 at2 .nil)) b o) 2 64 A c) (hk:CIn w b v g0 g1 g2 k s1 (.slice A 2 c) at_ lv)
  (hlen:l.length+sumT (arC m (hgtC k1,innC k1 (txX a1) (txC o1))++([sg.data.toList]++arC (m+1) (hgtC k2,innC k2 (txX a2) (txC o2))))≤140737488355328):
  Calls Tryz.prog 227 #[.pointer (some ⟨g0,0,none⟩),.pointer (some ⟨g1,0,none⟩),.pointer (some ⟨g2,0,none⟩)] w (PutW B b v (putsT (l,wd) (arC m (hgtC k1,innC k1 (txX a1) (txC o1))++([sg.data.toList]++arC (m+1) (hgtC k2,innC k2 (txX a2) (txC o2))))) (.tuple #[]) w):=by
 have hm4:m+1≤4:=by omega
 have hsg:sg.data.toList≠ []:=by rcases hk5 with⟨_,_,_,rfl⟩|⟨_,_,_,rfl⟩<;>decide
 obtain⟨tx,htx⟩:=nmq (arC m (hgtC k1,innC k1 (txX a1) (txC o1)))
 obtain⟨ty,hty⟩:=nmq (arC (m+1) (hgtC k2,innC k2 (txX a2) (txC o2)))
 unfold PC at ih ih2
 rw[←htx,←hty]at hlen ⊢
 have hr1:l.length+sumT tx≤140737488355328:=by rw[sumT_app]at hlen;omega
 have hr2:=putsT_room (s:=(l,wd)) hlen
 have hr2':(putsT (l,wd) tx).1.length +sumT [sg.data.toList]≤140737488355328:=by rw[sumT_app]at hr2;omega
 have hr3:=putsT_room hr2
 obtain⟨bA,oA,rfl,hat⟩:=hx.2.2 (by decide)
 have x0:=hk.k0.cell 0
 have x3:=hk.k0.cell 2
 have xl:=hk.k0.lt
 have y0:=hk.k1.cell 0
 have yl:=hk.k1.lt
 have u0:=hk.k2.cell 0
 have ul:=hk.k2.lt
 simp only[getsL]at x0 x3 y0 u0
 obtain⟨A1,q1,A2,q2,s1',s2',hbS,c0,c1,c2,c3⟩:=hat.first
 have hlA:bA < w.heap.size:=ltq (hS _ hbS) h.base
 have hsm:=(Fr.refl NoT w).drew.same fun x hx=>⟨ltq (hS x hx) h.base,id⟩
 have HC:=hdq (ih at1 B b v _ _ w.drew S Z A1 q1 A2 q2 m h.drew (ht.fr ((Fr.refl _ _).drew) h.base) hS (s1'.imp fun _ _ hx=>ExR.keep hsm hx) (s2'.imp fun _ _ hx=>CdR.keep hsm hx) (by omega) (by rw[←htx];exact hr1))
 rw[←htx]at HC
 have HR:=hdq (aiq hr2' hr3)
 have HB:=hdq (show ∀w1 v1,Went b v v1 w w1→CdR w1 S Z (.cons k1 a1 o1 at1 (.cons k2 a2 o2 at2 .nil)) bA oA∧CIn w1 b v1 g0 g1 g2 k s1 (.slice (some ⟨bA,oA,none⟩) 2 c) at_ lv∧Tb B w1 from
  fun w1 v1 hg=>⟨CdR.keep (hg.same h hS) hat,hk.up hg,ht.went hg h⟩)
 have HS:=hdq (show ∀W' v',Went b v v' w W'→SgC b g0 g1 g2 k lv W' from fun W' v' hg=>(HB.out _ _ hg).2.1.sg)
 have HI:=hdq ih2
 have HTY:=hdq hty
 have HSB:=hdq hS
 have HM4:=hdq hm4
 have HE:=hdq (fun(w0:World) (v0:Value) (l0:List UInt8) (wd0:Bool) (h0:WrAt B b v0 l0 wd0 w0) hl=>put1_at h0 sg sg.data.toList rfl hsg hl)
 clear h ht hS hx hk hlen hr1 hr2 hr3 hr2' hat ih ih2 htx hty hm4 hsg hbS hsm s1' s2'
 have wr0:IntKind.u8.wrap 0=0:=by decide
 have wr1:IntKind.u8.wrap 1=1:=by decide
 have wr2:IntKind.u8.wrap 2=2:=by decide
 have wr3:IntKind.u8.wrap 3=3:=by decide
 have wr4:IntKind.u8.wrap 4=4:=by decide
 have wr5:IntKind.u8.wrap 5=5:=by decide
 have wi0:IntKind.i64.wrap 0=0:=by decide
 have wi1:IntKind.i64.wrap 1=1:=by decide
 have wi2:IntKind.i64.wrap 2=2:=by decide
 have wi3:IntKind.i64.wrap 3=3:=by decide
 have wi4:IntKind.i64.wrap 4=4:=by decide
 have wi5:IntKind.i64.wrap 5=5:=by decide
 rcases hk5 with⟨rfl,rfl,rfl,rfl⟩|⟨rfl,rfl,rfl,rfl⟩
 all_goals
  go_enter Tryz.func227,Tryz.ntmps227
  go_wp2_with fail
  refine wp_region_still_tail 6 (by kernel_rfl) (by kernel_rfl) ?_
  simp only[List.take_succ_cons,List.take_zero,List.drop_succ_cons,List.drop_zero]
  repeat still_step
  try refine wpStill_nil ?_
  go_wp2_with fail
  refine HC.out.mono ?_
  rintro _ w1 ⟨v1,rfl,h1,hg1⟩
  have hg01:=(Went.of (b:=b) (v:=v) ((Fr.refl NoT w).drew)).trans hg1
  clear x0 x3 xl y0 yl u0 ul c0 c1 c2 c3 hlA HC
  have H1:=hdq (aiq h1 hg01)
  clear h1 hg1 hg01
  go_wp2_with fail
  refine wp_region_E (SgC b g0 g1 g2 _ _) (fun _=>true) (by kernel_rfl) (HS.out _ v1 (H1.out.2.trans (Went.of ((Fr.refl _ _).drew)))) (fun hHeld=>?_)
  have hC1:Fr NoT w1 ((w1.alloc (.cells #[.string ⟨#[124,124]⟩,.string ⟨#[38,38]⟩] 9)).drew):=((Fr.refl NoT w1).alloc _).drew
  refine wpE_take 0 (v:=?_) rfl (by kernel_rfl) (fun _ _ _ h=>h) hHeld (by rfl) ?_ ?_;rotate_left
  ·intro wz hSz;(try dsimp only[SgC]at hSz);go_simp;try with_reducible rfl
  try simp only[putsL]
  refine wpE_take 2 (v:=?_) rfl (by kernel_rfl) (fun _ _ _ h=>h) hHeld (by rfl) ?_ ?_;rotate_left
  ·intro wz hSz;(try dsimp only[SgC]at hSz);go_simp;try with_reducible rfl
  try simp only[putsL]
  refine wpE_pu 3 ?_
  try simp only[putsL]
  refine wpE_next 1 rfl (by kernel_rfl) (fun KK hK=>?_)
  go_simp
  refine hK _ _ (fun _ _=>HS.out _ v1 (H1.out.2.trans (Went.of (hC1)))) ?_
  clear hK KK hHeld
  try simp only[putsL]
  refine wpE_pu 4 ?_
  try simp only[putsL]
  refine wpE_next 5 rfl (by kernel_rfl) (fun KK hK=>?_)
  go_simp
  refine hK _ _ (fun _ h=>h) ?_
  clear hK KK
  try simp only[putsL]
  refine wpE_next 6 rfl (by kernel_rfl) (fun KK hK=>?_)
  go_simp
  refine hK _ _ (fun _ _=>HS.out _ v1 (H1.out.2.trans (Went.of ((hC1.alloc _))))) ?_
  clear hK KK
  try simp only[putsL]
  refine wpE_next 7 rfl (by kernel_rfl) (fun KK hK=>?_)
  go_simp
  go_at_call 35
  refine(HE.out _ _ _ _ (H1.out.1.fr hC1) HR.out.1 (w1.heap.size+1) (by simp) _ rfl).mono ?_
  rintro _ w2 ⟨v2,rfl,h2,hg2⟩
  have hg12:=(Went.of (b:=b) (v:=v1) hC1).trans hg2
  have hg02:=H1.out.2.trans hg12
  have hs2:=HS.out w2 v2 hg02
  have H2:=hdq (aiq h2 hg02)
  try dsimp only
  refine hK _ _ (fun _ _=>hs2) ?_
  clear hK KK hs2 h2 hg2 hg02 hg12 HS H1
  try simp only[putsL]
  refine wpE_done (by kernel_rfl) ?_
  obtain⟨hx2,hk2,ht2⟩:=HB.out w2 v2 H2.out.2
  obtain⟨A1,q1,A2,q2,s1',s2',hbS,c0,c1,c2,c3⟩:=hx2.second.first
  have x3:=hk2.k0.cell 2
  have xl:=hk2.k0.lt
  have y0:=hk2.k1.cell 0
  have yl:=hk2.k1.lt
  have u0:=hk2.k2.cell 0
  have ul:=hk2.k2.lt
  simp only[getsL]at x3 y0 u0
  have hB2:=H2.out.1.base
  have hlA:bA < w2.heap.size:=ltq (HSB.out _ hbS) hB2
  have hsm:=(Fr.refl NoT w2).drew.same fun x hx=>⟨ltq (HSB.out x hx) hB2,id⟩
  have HC:=hdq (HI.out at2 B b v2 _ _ w2.drew S Z A1 q1 A2 q2 _ H2.out.1.drew (ht2.fr ((Fr.refl _ _).drew) hB2) HSB.out (s1'.imp fun _ _ hx=>ExR.keep hsm hx) (s2'.imp fun _ _ hx=>CdR.keep hsm hx) HM4.out (by rw[←HTY.out];exact HR.out.2))
  rw[←HTY.out]at HC
  clear hx2 hk2 ht2 hbS hB2 hsm s1' s2'
  go_wp2_with fail
  refine wp_region_still_tail 7 (by kernel_rfl) (by kernel_rfl) ?_
  simp only[List.take_succ_cons,List.take_zero,List.drop_succ_cons,List.drop_zero]
  repeat still_step
  try refine wpStill_nil ?_
  go_wp2_with fail
  refine HC.out.mono ?_
  rintro _ w3 ⟨v3,rfl,h3,hg3⟩
  have HF:=hdq (aiq h3 (H2.out.2.trans ((Went.of (b:=b) (v:=v2) ((Fr.refl NoT w2).drew)).trans hg3)))
  clear h3 hg3 x3 xl y0 yl u0 ul c0 c1 c2 c3 hlA HC H2
  go_wp2_with fail
  go_end0
  exact⟨v3,rfl,HF.out.1.puts.puts,HF.out.2⟩
theorem pc_cmp (k:Int) (m:Nat) (lv:Int) (sg:ByteArray) (hk5:(k=3∧m=3∧lv=3∧sg=⟨#[60]⟩)∨(k=4∧m=3∧lv=3∧sg=⟨#[60,61]⟩)∨(k=5∧m=3∧lv=3∧sg=⟨#[62]⟩)∨(k=6∧m=3∧lv=3∧sg=⟨#[62,61]⟩)∨(k=7∧m=3∧lv=3∧sg=⟨#[61,61]⟩)∨(k=8∧m=3∧lv=3∧sg=⟨#[33,61]⟩))
  (at_:Int) (k1:Int) (nm1:ByteArray) (n1:Int) (b1:Exs) (at1:Int) (k2:Int) (nm2:ByteArray) (n2:Int) (b2:Exs) (at2:Int) (ih:PX k1 nm1 n1 b1) (ih2:PX k2 nm2 n2 b2) {B b:Nat} {v:Value} {l:List UInt8} {wd:Bool} {w:World} {S:Nat→Prop} {Z:Prop} {A:Option Addr} {c:Nat} {s1:Value} {g0 g1 g2:Nat}
  (h:WrAt B b v l wd w) (ht:Tb B w) (hS:∀x,S x→x < B) (hx:SlR (fun b o=>ExR w S Z (.cons k1 nm1 n1 b1 at1 (.cons k2 nm2 n2 b2 at2 .nil)) b o) 2 64 A c) (hk:CIn w b v g0 g1 g2 k (.slice A 2 c) s1 at_ lv)
  (hlen:l.length+sumT (arE 0 (lvlE k1,innE k1 nm1 n1 (txX b1))++([sg.data.toList]++arE 0 (lvlE k2,innE k2 nm2 n2 (txX b2))))≤140737488355328):
  Calls Tryz.prog 227 #[.pointer (some ⟨g0,0,none⟩),.pointer (some ⟨g1,0,none⟩),.pointer (some ⟨g2,0,none⟩)] w (PutW B b v (putsT (l,wd) (arE 0 (lvlE k1,innE k1 nm1 n1 (txX b1))++([sg.data.toList]++arE 0 (lvlE k2,innE k2 nm2 n2 (txX b2))))) (.tuple #[]) w):=by
 have hm4:m+1≤4:=by omega
 have hsg:sg.data.toList≠ []:=by rcases hk5 with⟨_,_,_,rfl⟩|⟨_,_,_,rfl⟩|⟨_,_,_,rfl⟩|⟨_,_,_,rfl⟩|⟨_,_,_,rfl⟩|⟨_,_,_,rfl⟩<;>decide
 obtain⟨tx,htx⟩:=nmq (arE 0 (lvlE k1,innE k1 nm1 n1 (txX b1)))
 obtain⟨ty,hty⟩:=nmq (arE 0 (lvlE k2,innE k2 nm2 n2 (txX b2)))
 unfold PX at ih ih2
 rw[←htx,←hty]at hlen ⊢
 have hr1:l.length+sumT tx≤140737488355328:=by rw[sumT_app]at hlen;omega
 have hr2:=putsT_room (s:=(l,wd)) hlen
 have hr2':(putsT (l,wd) tx).1.length +sumT [sg.data.toList]≤140737488355328:=by rw[sumT_app]at hr2;omega
 have hr3:=putsT_room hr2
 obtain⟨bA,oA,rfl,hat⟩:=hx.2.2 (by decide)
 have x0:=hk.k0.cell 0
 have x3:=hk.k0.cell 1
 have xl:=hk.k0.lt
 have y0:=hk.k1.cell 0
 have yl:=hk.k1.lt
 have u0:=hk.k2.cell 0
 have ul:=hk.k2.lt
 simp only[getsL]at x0 x3 y0 u0
 obtain⟨A1,q1,s1',hn1,hbS,c0,c1,c2,c3,c4⟩:=hat.first
 have hlA:bA < w.heap.size:=ltq (hS _ hbS) h.base
 have hsm:=(Fr.refl NoT w).drew.same fun x hx=>⟨ltq (hS x hx) h.base,id⟩
 have HC:=hdq (ih at1 B b v _ _ w.drew S Z A1 q1 0 h.drew (ht.fr ((Fr.refl _ _).drew) h.base) hS (s1'.imp fun _ _ hx=>ExR.keep hsm hx) hn1 (by omega) (by rw[←htx];exact hr1))
 rw[←htx]at HC
 have HR:=hdq (aiq hr2' hr3)
 have HB:=hdq (show ∀w1 v1,Went b v v1 w w1→ExR w1 S Z (.cons k1 nm1 n1 b1 at1 (.cons k2 nm2 n2 b2 at2 .nil)) bA oA∧CIn w1 b v1 g0 g1 g2 k (.slice (some ⟨bA,oA,none⟩) 2 c) s1 at_ lv∧Tb B w1 from
  fun w1 v1 hg=>⟨ExR.keep (hg.same h hS) hat,hk.up hg,ht.went hg h⟩)
 have HS:=hdq (show ∀W' v',Went b v v' w W'→SgC b g0 g1 g2 k lv W' from fun W' v' hg=>(HB.out _ _ hg).2.1.sg)
 have HI:=hdq ih2
 have HTY:=hdq hty
 have HSB:=hdq hS
 have HM4:=hdq hm4
 have HE:=hdq (fun(w0:World) (v0:Value) (l0:List UInt8) (wd0:Bool) (h0:WrAt B b v0 l0 wd0 w0) hl=>put1_at h0 sg sg.data.toList rfl hsg hl)
 clear h ht hS hx hk hlen hr1 hr2 hr3 hr2' hat ih ih2 htx hty hm4 hsg hbS hsm s1' hn1
 have wr0:IntKind.u8.wrap 0=0:=by decide
 have wr1:IntKind.u8.wrap 1=1:=by decide
 have wr2:IntKind.u8.wrap 2=2:=by decide
 have wr3:IntKind.u8.wrap 3=3:=by decide
 have wr4:IntKind.u8.wrap 4=4:=by decide
 have wr5:IntKind.u8.wrap 5=5:=by decide
 have wi0:IntKind.i64.wrap 0=0:=by decide
 have wi1:IntKind.i64.wrap 1=1:=by decide
 have wi2:IntKind.i64.wrap 2=2:=by decide
 have wi3:IntKind.i64.wrap 3=3:=by decide
 have wi4:IntKind.i64.wrap 4=4:=by decide
 have wi5:IntKind.i64.wrap 5=5:=by decide
 rcases hk5 with⟨rfl,rfl,rfl,rfl⟩|⟨rfl,rfl,rfl,rfl⟩|⟨rfl,rfl,rfl,rfl⟩|⟨rfl,rfl,rfl,rfl⟩|⟨rfl,rfl,rfl,rfl⟩|⟨rfl,rfl,rfl,rfl⟩
 all_goals
  go_enter Tryz.func227,Tryz.ntmps227
  go_wp2_with fail
  refine wp_region_still_tail 5 (by kernel_rfl) (by kernel_rfl) ?_
  simp only[List.take_succ_cons,List.take_zero,List.drop_succ_cons,List.drop_zero]
  repeat still_step
  try refine wpStill_nil ?_
  go_wp2_with fail
  refine HC.out.mono ?_
  rintro _ w1 ⟨v1,rfl,h1,hg1⟩
  have hg01:=(Went.of (b:=b) (v:=v) ((Fr.refl NoT w).drew)).trans hg1
  clear x0 x3 xl y0 yl u0 ul c0 c1 c2 c3 c4 hlA HC
  have H1:=hdq (aiq h1 hg01)
  clear h1 hg1 hg01
  go_wp2_with fail
  refine wp_region_E (SgC b g0 g1 g2 _ _) (fun _=>true) (by kernel_rfl) (HS.out _ v1 (H1.out.2.trans (Went.of ((Fr.refl _ _).drew)))) (fun hHeld=>?_)
  have hC1:Fr NoT w1 ((w1.alloc (.cells #[.string ⟨#[60]⟩,.string ⟨#[60,61]⟩,.string ⟨#[62]⟩,.string ⟨#[62,61]⟩,.string ⟨#[61,61]⟩,.string ⟨#[33,61]⟩] 9)).drew):=((Fr.refl NoT w1).alloc _).drew
  refine wpE_take 0 (v:=?_) rfl (by kernel_rfl) (fun _ _ _ h=>h) hHeld (by rfl) ?_ ?_;rotate_left
  ·intro wz hSz;(try dsimp only[SgC]at hSz);go_simp;try with_reducible rfl
  try simp only[putsL]
  refine wpE_pu 2 ?_
  try simp only[putsL]
  refine wpE_take 3 (v:=?_) rfl (by kernel_rfl) (fun _ _ _ h=>h) hHeld (by rfl) ?_ ?_;rotate_left
  ·intro wz hSz;(try dsimp only[SgC]at hSz);go_simp;try with_reducible rfl
  try simp only[putsL]
  refine wpE_pu 4 ?_
  try simp only[putsL]
  refine wpE_next 1 rfl (by kernel_rfl) (fun KK hK=>?_)
  go_simp
  refine hK _ _ (fun _ _=>HS.out _ v1 (H1.out.2.trans (Went.of (hC1)))) ?_
  clear hK KK hHeld
  try simp only[putsL]
  refine wpE_pu 5 ?_
  try simp only[putsL]
  refine wpE_next 6 rfl (by kernel_rfl) (fun KK hK=>?_)
  go_simp
  refine hK _ _ (fun _ h=>h) ?_
  clear hK KK
  try simp only[putsL]
  refine wpE_next 7 rfl (by kernel_rfl) (fun KK hK=>?_)
  go_simp
  refine hK _ _ (fun _ _=>HS.out _ v1 (H1.out.2.trans (Went.of ((hC1.alloc _))))) ?_
  clear hK KK
  try simp only[putsL]
  refine wpE_next 8 rfl (by kernel_rfl) (fun KK hK=>?_)
  go_simp
  go_at_call 35
  refine(HE.out _ _ _ _ (H1.out.1.fr hC1) HR.out.1 (w1.heap.size+1) (by simp) _ rfl).mono ?_
  rintro _ w2 ⟨v2,rfl,h2,hg2⟩
  have hg12:=(Went.of (b:=b) (v:=v1) hC1).trans hg2
  have hg02:=H1.out.2.trans hg12
  have hs2:=HS.out w2 v2 hg02
  have H2:=hdq (aiq h2 hg02)
  try dsimp only
  refine hK _ _ (fun _ _=>hs2) ?_
  clear hK KK hs2 h2 hg2 hg02 hg12 HS H1
  try simp only[putsL]
  refine wpE_done (by kernel_rfl) ?_
  obtain⟨hx2,hk2,ht2⟩:=HB.out w2 v2 H2.out.2
  obtain⟨A1,q1,s1',hn1,hbS,c0,c1,c2,c3,c4⟩:=hx2.second.first
  have x3:=hk2.k0.cell 1
  have xl:=hk2.k0.lt
  have y0:=hk2.k1.cell 0
  have yl:=hk2.k1.lt
  have u0:=hk2.k2.cell 0
  have ul:=hk2.k2.lt
  simp only[getsL]at x3 y0 u0
  have hB2:=H2.out.1.base
  have hlA:bA < w2.heap.size:=ltq (HSB.out _ hbS) hB2
  have hsm:=(Fr.refl NoT w2).drew.same fun x hx=>⟨ltq (HSB.out x hx) hB2,id⟩
  have HC:=hdq (HI.out at2 B b v2 _ _ w2.drew S Z A1 q1 0 H2.out.1.drew (ht2.fr ((Fr.refl _ _).drew) hB2) HSB.out (s1'.imp fun _ _ hx=>ExR.keep hsm hx) hn1 (by omega) (by rw[←HTY.out];exact HR.out.2))
  rw[←HTY.out]at HC
  clear hx2 hk2 ht2 hbS hB2 hsm s1' hn1
  go_wp2_with fail
  refine wp_region_still_tail 5 (by kernel_rfl) (by kernel_rfl) ?_
  simp only[List.take_succ_cons,List.take_zero,List.drop_succ_cons,List.drop_zero]
  repeat still_step
  try refine wpStill_nil ?_
  go_wp2_with fail
  refine HC.out.mono ?_
  rintro _ w3 ⟨v3,rfl,h3,hg3⟩
  have HF:=hdq (aiq h3 (H2.out.2.trans ((Went.of (b:=b) (v:=v2) ((Fr.refl NoT w2).drew)).trans hg3)))
  clear h3 hg3 x3 xl y0 yl u0 ul c0 c1 c2 c3 c4 hlA HC H2
  go_wp2_with fail
  go_end0
  exact⟨v3,rfl,HF.out.1.puts.puts,HF.out.2⟩

theorem pc_in (k:Int) (at_:Int) (args:Exs) (of_:Cds) (hk:okD k args of_ at_=true) (ihx:PXs args) (ih:PCs of_) {B b:Nat} {v:Value} {l:List UInt8} {wd:Bool} {w:World} {S:Nat→Prop} {Z:Prop} {A A':Option Addr} {c c' g0 g1 g2:Nat}
  (h:WrAt B b v l wd w) (ht:Tb B w) (hS:∀x,S x→x < B) (hx:SlR (fun b o=>ExR w S Z args b o) args.len 64 A c) (hx':SlR (fun b o=>CdR w S Z of_ b o) of_.len 64 A' c') (hi:CIn w b v g0 g1 g2 k (.slice A args.len c) (.slice A' of_.len c') at_ (hgtC k)) (hlen:l.length+sumT (innC k (txX args) (txC of_))≤140737488355328):
  Calls Tryz.prog 227 #[.pointer (some ⟨g0,0,none⟩),.pointer (some ⟨g1,0,none⟩),.pointer (some ⟨g2,0,none⟩)] w (PutW B b v (putsT (l,wd) (innC k (txX args) (txC of_))) (.tuple #[]) w):=by
 simp only[okD,Bool.and_eq_true,decide_eq_true_eq,beq_iff_eq]at hk
 obtain⟨⟨⟨⟨⟨h1,h2⟩,h3⟩,h4⟩,h5⟩,h6⟩:=hk
 have hk:k=1∨k=2∨k=9∨k=10∨k=11∨(3≤k∧k≤8):=by omega
 rcases hk with rfl|rfl|rfl|rfl|rfl|⟨k3,k8⟩
 ·exact pc_yes _ _ at_ h hi hlen
 ·exact pc_no _ _ at_ h hi hlen
 ·obtain⟨k',b',o',at',rfl⟩:=lenC1 (a:=of_) (by simp[tabA,cdShp]at h4;omega)
  exact pc_not at_ k' b' o' at' (ih 0 _ _ _ _ _ rfl) h ht hS hx' hi hlen
 ·obtain⟨k1,b1,o1,at1,k2,b2,o2,at2,rfl⟩:=lenC2 (a:=of_) (by simp[tabA,cdShp]at h4;omega)
  exact pc_two 10 2 2 ⟨#[38,38]⟩ (by simp) at_ k1 b1 o1 at1 k2 b2 o2 at2 (ih 0 _ _ _ _ _ rfl) (ih 1 _ _ _ _ _ rfl) h ht hS hx' hi hlen
 ·obtain⟨k1,b1,o1,at1,k2,b2,o2,at2,rfl⟩:=lenC2 (a:=of_) (by simp[tabA,cdShp]at h4;omega)
  exact pc_two 11 1 1 ⟨#[124,124]⟩ (by simp) at_ k1 b1 o1 at1 k2 b2 o2 at2 (ih 0 _ _ _ _ _ rfl) (ih 1 _ _ _ _ _ rfl) h ht hS hx' hi hlen
 ·have hkk:k=3∨k=4∨k=5∨k=6∨k=7∨k=8:=by omega
  obtain⟨k1,nm1,n1,b1,at1,k2,nm2,n2,b2,at2,rfl⟩:=len2 (a:=args) (by
   have:(tabA cdShp k).1 =2:=by rcases hkk with rfl|rfl|rfl|rfl|rfl|rfl<;>rfl
   rw[this]at h3
   omega)
  have i1:=ihx 0 _ _ _ _ _ _ rfl
  have i2:=ihx 1 _ _ _ _ _ _ rfl
  rcases hkk with rfl|rfl|rfl|rfl|rfl|rfl
  ·exact pc_cmp 3 3 3 ⟨#[60]⟩ (by simp) at_ k1 nm1 n1 b1 at1 k2 nm2 n2 b2 at2 i1 i2 h ht hS hx hi hlen
  ·exact pc_cmp 4 3 3 ⟨#[60,61]⟩ (by simp) at_ k1 nm1 n1 b1 at1 k2 nm2 n2 b2 at2 i1 i2 h ht hS hx hi hlen
  ·exact pc_cmp 5 3 3 ⟨#[62]⟩ (by simp) at_ k1 nm1 n1 b1 at1 k2 nm2 n2 b2 at2 i1 i2 h ht hS hx hi hlen
  ·exact pc_cmp 6 3 3 ⟨#[62,61]⟩ (by simp) at_ k1 nm1 n1 b1 at1 k2 nm2 n2 b2 at2 i1 i2 h ht hS hx hi hlen
  ·exact pc_cmp 7 3 3 ⟨#[61,61]⟩ (by simp) at_ k1 nm1 n1 b1 at1 k2 nm2 n2 b2 at2 i1 i2 h ht hS hx hi hlen
  ·exact pc_cmp 8 3 3 ⟨#[33,61]⟩ (by simp) at_ k1 nm1 n1 b1 at1 k2 nm2 n2 b2 at2 i1 i2 h ht hS hx hi hlen
theorem pc_one (k:Int) (args:Exs) (of_:Cds) (hk:∀at_,okD k args of_ at_=true) (ihx:PXs args) (ih:PCs of_):PC k args of_:=by
 intro at_ B b v l wd w S Z A c A' c' least h ht hS hx hx' hle hlen
 have hk8:in8 k:=by
  have:=hk at_
  simp only[okD,Bool.and_eq_true,decide_eq_true_eq]at this
  exact⟨by omega,by omega⟩
 have hent:Enters Tryz.prog 227:=enters_of Tryz.func227 (by kernel_rfl) rfl
 have HIN:=hdq (fun(wx:World) (g0 g1 g2:Nat) (hf:Fr NoT w wx) (hi:CIn wx b v g0 g1 g2 k (.slice A args.len c) (.slice A' of_.len c') at_ (hgtC k))=>
  show Puts 227 #[.pointer (some ⟨g0,0,none⟩),.pointer (some ⟨g1,0,none⟩),.pointer (some ⟨g2,0,none⟩)] B b v wx (innC k (txX args) (txC of_))from
  fun v1 l1 wd1 w1 h1 hg hl1=>by
   have hsm:=(hf.same fun x hx=>⟨ltq (hS x hx) h.base,id⟩).trans (hg.same (h.fr hf) hS)
   exact pc_in k at_ args of_ (hk at_) ihx ih h1 ((ht.fr hf h.base).went hg (h.fr hf)) hS (hx.imp fun _ _ hx=>ExR.keep hsm hx) (hx'.imp fun _ _ hx=>CdR.keep hsm hx) (hi.up hg) hl1)
 have HLV:=hdq (height_any k)
 obtain⟨m,hm⟩:=nmq (hgtC k)
 have hm4:m≤4:=by
  rw[hm]
  unfold hgtC
  repeat' split
  all_goals omega
 have HAR:=hdq (fun(wx:World) (hf:Fr NoT w wx) (g:Nat) (cap:Array Value) (hP:Puts g cap B b v wx (innC k (txX args) (txC of_))) (hent:Enters Tryz.prog g)=>
  around_any (h.fr hf) g cap (innC k (txX args) (txC of_)) hP hent (decide (m < least)) ⟨#[91]⟩ ⟨#[93]⟩ [91] [93] rfl rfl (by decide) (by decide) (by
   unfold arC at hlen
   rw[←hm]at hlen
   simpa using hlen))
 have HEQ:=hdq (show arC least (hgtC k,innC k (txX args) (txC of_))=(if decide (m < least)=true then [91]::(innC k (txX args) (txC of_)++ [[93]])else innC k (txX args) (txC of_))from by
  unfold arC
  rw[←hm]
  simp)
 rw[HEQ.out]
 rw[←hm]at HLV HIN
 obtain⟨tx,htx⟩:=nmq (innC k (txX args) (txC of_))
 rw[←htx]at HIN HAR ⊢
 obtain⟨tz,htz⟩:=nmq ((if decide (m < least)=true then [91]::(tx++ [[93]])else tx))
 rw[←htz]at HAR ⊢
 obtain⟨al,hal⟩:=nmq args.len
 obtain⟨ol,hol⟩:=nmq of_.len
 rw[←hal,←hol]at HIN ⊢
 obtain⟨W,hW⟩:=nmq (((w.alloc (.cells #[.pointer (some ⟨b,0,none⟩)] 88)).alloc (.cells #[.int .u8 k,.slice A al c,.slice A' ol c',.int .i64 at_] 160)).alloc (.cells #[.int .i64 m] 3))
 have HF:=hdq (show Fr NoT w W from by rw[hW];exact(((Fr.refl _ _).alloc _).alloc _).alloc _)
 have HX:=hdq (show CIn W b v (w.heap.size+1) w.heap.size (w.heap.size+1+1) k (.slice A al c) (.slice A' ol c') at_ m from by
  rw[hW]
  exact⟨(Bk.new_at _ _ _ (n:=w.heap.size+1) (by simp)).alloc _,((Bk.new w _ _).alloc _).alloc _,Bk.new_at _ _ _ (by simp),h.new (by omega),h.new (by omega),h.new (by omega)⟩)
 have HWE:=hdq hW
 clear h ht hS hx hx' hlen hk ih ihx HEQ hm htx hal hol hW htz
 go_enter Tryz.func203,Tryz.ntmps203
 go_wp2_with fail
 refine(HLV.out _).mono ?_
 rintro _ _ ⟨rfl,rfl⟩
 go_wp2_with fail
 rw[←HWE.out]
 refine(HAR.out W HF.out _ _ (HIN.out W _ _ _ HF.out HX.out) hent).mono ?_
 rintro _ w2 ⟨v2,rfl,h2,hg2⟩
 have H2:=hdq (aiq h2 ((Went.of (b:=b) (v:=v) HF.out).trans hg2))
 clear h2 hg2
 go_wp2_with fail
 go_end0
 exact⟨v2,rfl,H2.out.1,H2.out.2⟩
theorem pc_all:∀xs:Cds,okC xs=true→PCs xs
 | .nil,_=>fun i _ _ _ _ _ hd=>by cases i<;>simp[Cds.drop]at hd
 | .cons k args of_ at_ rest,h=>fun i _ _ _ _ _ hd=>by
  cases i with
  |zero=>
   simp only[Cds.drop]at hd
   injection hd with e1 e2 e3 e4 e5
   subst e1 e2 e3 e4 e5
   have h':=h
   simp only[okC,Bool.and_eq_true]at h'
   exact pc_one k args of_ (fun _=>by simp only[okD,Bool.and_eq_true];exact h'.1) (px_all args h'.1.1.2) (pc_all of_ h'.1.2)
  |succ i=>
   simp only[Cds.drop]at hd
   have h':=h
   simp only[okC,Bool.and_eq_true]at h'
   exact pc_all rest h'.2 i _ _ _ _ _ hd

theorem betw_app:∀(a b:List Tx),a≠ []→b≠ []→betw (a++b)=betw a++ [44]::betw b
 | [],_,h,_=>absurd rfl h
 | [x],b,_,h=>by
  cases b with
  |nil=>exact absurd rfl h
  |cons y r=>rfl
 |x::y::r,b,_,h=>by
  have:=betw_app (y::r) b (by simp) h
  rw[show(x::y::r)++b=x::y::(r++b)from rfl,show betw (x::y::(r++b))=x++ [44]::betw (y::r++b)from rfl,this]
  show x++ [44]::(betw (y::r)++ [44]::betw b)=(x++ [44]::betw (y::r))++ [44]::betw b
  simp
theorem betw_next {ts:List Tx} {k:Nat} {t:Tx} (h:ts[k]?=some t):betw (ts.take (k+1))=if k=0 then t else(betw (ts.take k)++ [[44]])++t:=by
 have hlt:k < ts.length:=(List.getElem?_eq_some_iff.1 h).1
 rw[List.take_add_one,h]
 split
 ·rename_i e
  subst e
  simp[betw]
 ·rename_i e
  have hne:ts.take k≠ []:=fun e2=>by
   have h2:(ts.take k).length =0:=by rw[e2];rfl
   rw[List.length_take]at h2
   omega
  rw[show(some t).toList = [t]from rfl,betw_app _ _ hne (by simp)]
  simp[betw]
theorem betw_sum {ts:List Tx} {k:Nat} {t:Tx} (h:ts[k]?=some t):sumT (betw (ts.take (k+1)))≤sumT (betw ts):=by
 have e:ts.take (k+1)++ts.drop (k+1)=ts:=List.take_append_drop _ _
 have hlt:k < ts.length:=(List.getElem?_eq_some_iff.1 h).1
 by_cases hd:ts.drop (k+1)= []
 ·rw[hd,List.append_nil]at e
  rw[e]
  exact lrq _
 ·have hne:ts.take (k+1)≠ []:=fun e3=>by
   have h2:(ts.take (k+1)).length =0:=by rw[e3];rfl
   rw[List.length_take]at h2
   omega
  have e2:betw ts=betw (ts.take (k+1))++ [44]::betw (ts.drop (k+1)):=by
   have:=betw_app (ts.take (k+1)) (ts.drop (k+1)) hne hd
   rw[e]at this
   exact this
  rw[e2,sumT_app]
  omega
def AskWEx (g:Nat) (cap:Array Value) (B b:Nat) (v:Value) (w:World) (S:Nat→Prop) (Z:Prop) (xs:Exs) (ts:List Tx):Prop:=
 ∀(i:Nat) (a0:Int) (a1:ByteArray) (a2:Int) (a3:Exs) (a4:Int) (ar:Exs) (A3:Option Addr) (q3:Nat),Exs.drop i xs= .cons a0 a1 a2 a3 a4 ar→in64 a2→SlR (fun b o=>ExR w S Z a3 b o) a3.len 64 A3 q3→∀t,ts[i]?=some t→Puts g (#[.agg #[.int .u8 a0,.string a1,.int .i64 a2,.slice A3 a3.len q3,.int .i64 a4]]++cap) B b v w t
theorem betwEx_any {B b:Nat} {v:Value} {l:List UInt8} {wd:Bool} {w:World} {S:Nat→Prop} {Z:Prop} {A:Option Addr} {c:Nat} (xs:Exs) (ts:List Tx) (htl:ts.length=xs.len) (g:Nat) (cap:Array Value) (h:WrAt B b v l wd w) (hS:∀x,S x→x < B)
  (hx:SlR (fun b o=>ExR w S Z xs b o) xs.len 64 A c) (hent:Enters Tryz.prog g) (hask:AskWEx g cap B b v w S Z xs ts) (hlen:l.length+sumT (betw ts)≤140737488355328):
  Calls Tryz.prog 167 #[.pointer (some ⟨b,0,none⟩),.slice A xs.len c,.func (.func g) #[] cap] w (PutW B b v (putsT (l,wd) (betw ts)) (.tuple #[]) w):=by
 have hl:xs.len≤9223372036854775807:=leq9 hx.1 hx.2.1.1
 have HA:=hdq hask
 have HX:=hdq hx
 have HS:=hdq hS
 have HW:=hdq h
 have HL:=hdq hlen
 have HT:=hdq htl
 obtain⟨m,hm⟩:=nmq xs.len
 rw[←hm]at hl ⊢
 have HM:=hdq hm
 clear hask hx hS hm h hlen htl
 unfold Enters at hent
 go_enter Tryz.func167,Tryz.ntmps167
 go_wp2_with fail
 go_loopw [10] (fun i wr=>∃(k:Nat) (v':Value),k≤m∧i= .int .i64 k∧Hid (WrAt B b v' (putsT (l,wd) (betw (ts.take k))).1 (putsT (l,wd) (betw (ts.take k))).2 wr)∧Hid (Went b v v' w wr)) (fun i _=>m - (intOf i).toNat)
 case atStart=>exact⟨0,v,Nat.zero_le _,rfl,HW.out,Went.refl _ _ _⟩
 case round=>
  obtain⟨k,v',hk,rfl,hw,hwent⟩:=hrel
  by_cases hlt:k < m
  ·obtain⟨a0,a1,a2,a3,a4,ar,hd⟩:=Exs.drop_cons (show k < xs.len from by rw[←HM.out];exact hlt)
   obtain⟨bA,oA,rfl,hat⟩:=HX.out.2.2 (by rw[←HM.out];omega)
   have hat1:=(ExR.keep (hwent.out.same HW.out HS.out) hat).drop k
   have hat0:=hat.drop k
   rw[hd]at hat1 hat0
   obtain⟨⟨hbS,_,r0,r1,_,c0,c1,c2,c4⟩,⟨A3,q3,c3,s3⟩,_⟩:=hat1
   obtain⟨A3',q3',c3',s3w⟩:=hat0.2.1
   have hxr:bA < wr.heap.size:=ltq (HS.out _ hbS) hw.out.base
   have hlt':(k:Int) < (m:Int):=by omega
   have hge:(0:Int)≤(k:Int):=by omega
   obtain⟨t,ht⟩:∃t,ts[k]?=some t:=⟨_,List.getElem?_eq_getElem (by rw[HT.out,←HM.out];exact hlt)⟩
   have hnx:=betw_next ht
   have hsm:=betw_sum ht
   obtain⟨e3,e4⟩:A3'=A3∧q3'=q3:=by have e:=(hwent.out.same HW.out HS.out ⟨bA,oA+k*5+3,none⟩ hbS).1.symm.trans c3;rw[c3']at e;simpa using e
   rw[e3,e4]at s3w
   clear e3 e4 c3'
   have HC:=hdq (HA.out k a0 a1 a2 a3 a4 ar A3 q3 hd r1 s3w t ht)
   have hf7:Fr NoT wr (wr.alloc (.cells #[.int .u8 a0,.string a1,.int .i64 a2,.slice A3 a3.len q3,.int .i64 a4] 41)):=(Fr.refl _ _).alloc _
   have HG7:=hdq (hwent.out.trans (Went.of hf7))
   have HW7:=hdq (hw.out.fr hf7)
   have HK7:=hdq (aiq (Bk.new wr 41 #[.int .u8 a0,.string a1,.int .i64 a2,.slice A3 a3.len q3,.int .i64 a4]) (hw.out.new (lrq wr.heap.size)))
   by_cases h0:k=0
   ·have e0:decide ((0:Int) < (k:Int))=false:=by simp;omega
    have e0n:decide (0 < k)=false:=by simp;omega
    rw[if_pos h0]at hnx
    have HN:=hdq hnx
    have HCC:=hdq (HC.out v' _ _ _ HW7.out HG7.out (by subst h0;have:=HL.out;rw[hnx]at hsm;simp[betw,putsT];omega))
    have HE0:=hdq (show betw (ts.take k)= []from by rw[h0];simp[betw])
    have HGE:=hdq HG7.out
    clear hd hat hw hwent hbS ht hnx hsm h0 hf7 hat0 HC
    go_wp2_with fail
    refine HCC.out.mono ?_
    rintro _ w3 ⟨v3,rfl,h3,hg3⟩
    have H3:=hdq h3
    have HG3:=hdq (HGE.out.trans hg3)
    clear h3 hg3 c0 c1 c2 c3 c4 HCC HG7 HW7 HGE HK7
    go_wp2_with fail
    go_roundw
    case rel=>exact⟨k+1,v3,by omega,by go_num,by have h9:=H3.out;rw[HE0.out]at h9;rw[HN.out];exact h9,HG3.out⟩
    case measure=>simp[intOf];omega
   ·have e0:decide ((0:Int) < (k:Int))=true:=by simp;omega
    have e0n:decide (0 < k)=true:=by simp;omega
    rw[if_neg h0]at hnx
    have HN:=hdq hnx
    have hroom:l.length+sumT ((betw (ts.take k)++ [[44]])++t)≤140737488355328:=by rw[←hnx];have:=HL.out;omega
    have hr1:=putsT_room (s:=(l,wd)) hroom
    have hr0:l.length+sumT (betw (ts.take k)++ [[44]])≤140737488355328:=by rw[sumT_app]at hroom;omega
    have hr2:=putsT_room (s:=(l,wd)) hr0
    have HCM:=hdq (put1_at HW7.out ⟨#[44]⟩ [44] rfl (by decide) hr2 (wr.heap.size+1) (by simp) _ rfl)
    have HR:=hdq hr1
    clear hd hat hw hwent hbS ht hnx hsm h0 hf7 hat0 hroom hr1 hr0 hr2
    go_wp2_with fail
    refine HCM.out.mono ?_
    rintro _ w2 ⟨v2,rfl,h2,hg2⟩
    have hk2:=(hg2.bk HK7.out.1 (fun hh=>HK7.out.2 hh)).1
    have k0:=hk2.cell 0
    have k1:=hk2.cell 1
    have k2:=hk2.cell 2
    have k3:=hk2.cell 3
    have k4:=hk2.cell 4
    have kl:=hk2.lt
    simp only[getsL]at k0 k1 k2 k3 k4
    have HG2:=hdq (HG7.out.trans hg2)
    have h2':=h2.puts
    have HCC:=hdq (HC.out v2 _ _ w2 h2' HG2.out (by exact HR.out))
    clear h2 hg2 h2' hk2 c0 c1 c2 c3 c4 HC HG7 HW7 HK7 HCM
    go_wp2_with fail
    refine HCC.out.mono ?_
    rintro _ w3 ⟨v3,rfl,h3,hg3⟩
    have H3:=hdq h3.puts
    have HG3:=hdq (HG2.out.trans hg3)
    clear h3 hg3 k0 k1 k2 k3 k4 kl HCC HG2
    go_wp2_with fail
    go_roundw
    case rel=>exact⟨k+1,v3,by omega,by go_num,by rw[HN.out];exact H3.out,HG3.out⟩
    case measure=>simp[intOf];omega
  ·have e:ts.take k=ts:=List.take_of_length_le (by rw[HT.out,←HM.out];omega)
   rw[e]at hw
   have HWk:=hdq hw.out
   have HGk:=hdq hwent.out
   clear hw hwent
   go_wp2_with fail
   go_end0
   exact⟨_,rfl,HWk.out,HGk.out⟩
def AskWVa (g:Nat) (cap:Array Value) (B b:Nat) (v:Value) (w:World) (S:Nat→Prop) (Z:Prop) (xs:List Va) (ts:List Tx):Prop:=
 ∀(i:Nat) (a0:ByteArray) (a1:Int) (ar:List Va),xs.drop i=(⟨a0,a1⟩:Va)::ar→∀t,ts[i]?=some t→Puts g (#[.agg #[.string a0,.int .i64 a1]]++cap) B b v w t
theorem betwVa_any {B b:Nat} {v:Value} {l:List UInt8} {wd:Bool} {w:World} {S:Nat→Prop} {Z:Prop} {A:Option Addr} {c:Nat} (xs:List Va) (ts:List Tx) (htl:ts.length=xs.length) (g:Nat) (cap:Array Value) (h:WrAt B b v l wd w) (hS:∀x,S x→x < B)
  (hx:SlR (fun b o=>VaR w S Z xs b o) xs.length 24 A c) (hent:Enters Tryz.prog g) (hask:AskWVa g cap B b v w S Z xs ts) (hlen:l.length+sumT (betw ts)≤140737488355328):
  Calls Tryz.prog 36 #[.pointer (some ⟨b,0,none⟩),.slice A xs.length c,.func (.func g) #[] cap] w (PutW B b v (putsT (l,wd) (betw ts)) (.tuple #[]) w):=by
 have hl:xs.length≤9223372036854775807:=leq9 hx.1 hx.2.1.1
 have HA:=hdq hask
 have HX:=hdq hx
 have HS:=hdq hS
 have HW:=hdq h
 have HL:=hdq hlen
 have HT:=hdq htl
 obtain⟨m,hm⟩:=nmq xs.length
 rw[←hm]at hl ⊢
 have HM:=hdq hm
 clear hask hx hS hm h hlen htl
 unfold Enters at hent
 go_enter Tryz.func36,Tryz.ntmps36
 go_wp2_with fail
 go_loopw [10] (fun i wr=>∃(k:Nat) (v':Value),k≤m∧i= .int .i64 k∧Hid (WrAt B b v' (putsT (l,wd) (betw (ts.take k))).1 (putsT (l,wd) (betw (ts.take k))).2 wr)∧Hid (Went b v v' w wr)) (fun i _=>m - (intOf i).toNat)
 case atStart=>exact⟨0,v,Nat.zero_le _,rfl,HW.out,Went.refl _ _ _⟩
 case round=>
  obtain⟨k,v',hk,rfl,hw,hwent⟩:=hrel
  by_cases hlt:k < m
  ·obtain⟨⟨a0,a1⟩,ar,hd,_⟩:=drop_head1 (show k < xs.length from by rw[←HM.out];exact hlt)
   obtain⟨bA,oA,rfl,hat⟩:=HX.out.2.2 (by rw[←HM.out];omega)
   have hat1:=(VaR.keep (hwent.out.same HW.out HS.out) hat).drop k
   have hat0:=hat.drop k
   rw[hd]at hat1 hat0
   obtain⟨⟨hbS,_,_,c0,c1⟩,_⟩:=hat1
   have hxr:bA < wr.heap.size:=ltq (HS.out _ hbS) hw.out.base
   have hlt':(k:Int) < (m:Int):=by omega
   have hge:(0:Int)≤(k:Int):=by omega
   obtain⟨t,ht⟩:∃t,ts[k]?=some t:=⟨_,List.getElem?_eq_getElem (by rw[HT.out,←HM.out];exact hlt)⟩
   have hnx:=betw_next ht
   have hsm:=betw_sum ht
   try simp only at c0 c1
   have HC:=hdq (HA.out k a0 a1 ar hd t ht)
   have hf7:Fr NoT wr (wr.alloc (.cells #[.string a0,.int .i64 a1] 43)):=(Fr.refl _ _).alloc _
   have HG7:=hdq (hwent.out.trans (Went.of hf7))
   have HW7:=hdq (hw.out.fr hf7)
   have HK7:=hdq (aiq (Bk.new wr 43 #[.string a0,.int .i64 a1]) (hw.out.new (lrq wr.heap.size)))
   by_cases h0:k=0
   ·have e0:decide ((0:Int) < (k:Int))=false:=by simp;omega
    have e0n:decide (0 < k)=false:=by simp;omega
    rw[if_pos h0]at hnx
    have HN:=hdq hnx
    have HCC:=hdq (HC.out v' _ _ _ HW7.out HG7.out (by subst h0;have:=HL.out;rw[hnx]at hsm;simp[betw,putsT];omega))
    have HE0:=hdq (show betw (ts.take k)= []from by rw[h0];simp[betw])
    have HGE:=hdq HG7.out
    clear hd hat hw hwent hbS ht hnx hsm h0 hf7 hat0 HC
    go_wp2_with fail
    refine HCC.out.mono ?_
    rintro _ w3 ⟨v3,rfl,h3,hg3⟩
    have H3:=hdq h3
    have HG3:=hdq (HGE.out.trans hg3)
    clear h3 hg3 c0 c1 HCC HG7 HW7 HGE HK7
    go_wp2_with fail
    go_roundw
    case rel=>exact⟨k+1,v3,by omega,by go_num,by have h9:=H3.out;rw[HE0.out]at h9;rw[HN.out];exact h9,HG3.out⟩
    case measure=>simp[intOf];omega
   ·have e0:decide ((0:Int) < (k:Int))=true:=by simp;omega
    have e0n:decide (0 < k)=true:=by simp;omega
    rw[if_neg h0]at hnx
    have HN:=hdq hnx
    have hroom:l.length+sumT ((betw (ts.take k)++ [[44]])++t)≤140737488355328:=by rw[←hnx];have:=HL.out;omega
    have hr1:=putsT_room (s:=(l,wd)) hroom
    have hr0:l.length+sumT (betw (ts.take k)++ [[44]])≤140737488355328:=by rw[sumT_app]at hroom;omega
    have hr2:=putsT_room (s:=(l,wd)) hr0
    have HCM:=hdq (put1_at HW7.out ⟨#[44]⟩ [44] rfl (by decide) hr2 (wr.heap.size+1) (by simp) _ rfl)
    have HR:=hdq hr1
    clear hd hat hw hwent hbS ht hnx hsm h0 hf7 hat0 hroom hr1 hr0 hr2
    go_wp2_with fail
    refine HCM.out.mono ?_
    rintro _ w2 ⟨v2,rfl,h2,hg2⟩
    have hk2:=(hg2.bk HK7.out.1 (fun hh=>HK7.out.2 hh)).1
    have k0:=hk2.cell 0
    have k1:=hk2.cell 1
    have kl:=hk2.lt
    simp only[getsL]at k0 k1
    have HG2:=hdq (HG7.out.trans hg2)
    have h2':=h2.puts
    have HCC:=hdq (HC.out v2 _ _ w2 h2' HG2.out (by exact HR.out))
    clear h2 hg2 h2' hk2 c0 c1 HC HG7 HW7 HK7 HCM
    go_wp2_with fail
    refine HCC.out.mono ?_
    rintro _ w3 ⟨v3,rfl,h3,hg3⟩
    have H3:=hdq h3.puts
    have HG3:=hdq (HG2.out.trans hg3)
    clear h3 hg3 k0 k1 kl HCC HG2
    go_wp2_with fail
    go_roundw
    case rel=>exact⟨k+1,v3,by omega,by go_num,by rw[HN.out];exact H3.out,HG3.out⟩
    case measure=>simp[intOf];omega
  ·have e:ts.take k=ts:=List.take_of_length_le (by rw[HT.out,←HM.out];omega)
   rw[e]at hw
   have HWk:=hdq hw.out
   have HGk:=hdq hwent.out
   clear hw hwent
   go_wp2_with fail
   go_end0
   exact⟨_,rfl,HWk.out,HGk.out⟩
def AskWAr (g:Nat) (cap:Array Value) (B b:Nat) (v:Value) (w:World) (S:Nat→Prop) (Z:Prop) (xs:List Arr) (ts:List Tx):Prop:=
 ∀(i:Nat) (a0:ByteArray) (a1 a2:Int) (ar:List Arr),xs.drop i=(⟨a0,a1,a2⟩:Arr)::ar→in64 a1→∀t,ts[i]?=some t→Puts g (#[.agg #[.string a0,.int .i64 a1,.int .i64 a2]]++cap) B b v w t
theorem betwAr_any {B b:Nat} {v:Value} {l:List UInt8} {wd:Bool} {w:World} {S:Nat→Prop} {Z:Prop} {A:Option Addr} {c:Nat} (xs:List Arr) (ts:List Tx) (htl:ts.length=xs.length) (g:Nat) (cap:Array Value) (h:WrAt B b v l wd w) (hS:∀x,S x→x < B)
  (hx:SlR (fun b o=>ArR w S Z xs b o) xs.length 32 A c) (hent:Enters Tryz.prog g) (hask:AskWAr g cap B b v w S Z xs ts) (hlen:l.length+sumT (betw ts)≤140737488355328):
  Calls Tryz.prog 37 #[.pointer (some ⟨b,0,none⟩),.slice A xs.length c,.func (.func g) #[] cap] w (PutW B b v (putsT (l,wd) (betw ts)) (.tuple #[]) w):=by
 have hl:xs.length≤9223372036854775807:=leq9 hx.1 hx.2.1.1
 have HA:=hdq hask
 have HX:=hdq hx
 have HS:=hdq hS
 have HW:=hdq h
 have HL:=hdq hlen
 have HT:=hdq htl
 obtain⟨m,hm⟩:=nmq xs.length
 rw[←hm]at hl ⊢
 have HM:=hdq hm
 clear hask hx hS hm h hlen htl
 unfold Enters at hent
 go_enter Tryz.func37,Tryz.ntmps37
 go_wp2_with fail
 go_loopw [10] (fun i wr=>∃(k:Nat) (v':Value),k≤m∧i= .int .i64 k∧Hid (WrAt B b v' (putsT (l,wd) (betw (ts.take k))).1 (putsT (l,wd) (betw (ts.take k))).2 wr)∧Hid (Went b v v' w wr)) (fun i _=>m - (intOf i).toNat)
 case atStart=>exact⟨0,v,Nat.zero_le _,rfl,HW.out,Went.refl _ _ _⟩
 case round=>
  obtain⟨k,v',hk,rfl,hw,hwent⟩:=hrel
  by_cases hlt:k < m
  ·obtain⟨⟨a0,a1,a2⟩,ar,hd,_⟩:=drop_head1 (show k < xs.length from by rw[←HM.out];exact hlt)
   obtain⟨bA,oA,rfl,hat⟩:=HX.out.2.2 (by rw[←HM.out];omega)
   have hat1:=(ArR.keep (hwent.out.same HW.out HS.out) hat).drop k
   have hat0:=hat.drop k
   rw[hd]at hat1 hat0
   obtain⟨⟨hbS,_,r1,_,c0,c1,c2⟩,_⟩:=hat1
   have hxr:bA < wr.heap.size:=ltq (HS.out _ hbS) hw.out.base
   have hlt':(k:Int) < (m:Int):=by omega
   have hge:(0:Int)≤(k:Int):=by omega
   obtain⟨t,ht⟩:∃t,ts[k]?=some t:=⟨_,List.getElem?_eq_getElem (by rw[HT.out,←HM.out];exact hlt)⟩
   have hnx:=betw_next ht
   have hsm:=betw_sum ht
   try simp only at c0 c1 c2
   have HC:=hdq (HA.out k a0 a1 a2 ar hd r1 t ht)
   have hf7:Fr NoT wr (wr.alloc (.cells #[.string a0,.int .i64 a1,.int .i64 a2] 66)):=(Fr.refl _ _).alloc _
   have HG7:=hdq (hwent.out.trans (Went.of hf7))
   have HW7:=hdq (hw.out.fr hf7)
   have HK7:=hdq (aiq (Bk.new wr 66 #[.string a0,.int .i64 a1,.int .i64 a2]) (hw.out.new (lrq wr.heap.size)))
   by_cases h0:k=0
   ·have e0:decide ((0:Int) < (k:Int))=false:=by simp;omega
    have e0n:decide (0 < k)=false:=by simp;omega
    rw[if_pos h0]at hnx
    have HN:=hdq hnx
    have HCC:=hdq (HC.out v' _ _ _ HW7.out HG7.out (by subst h0;have:=HL.out;rw[hnx]at hsm;simp[betw,putsT];omega))
    have HE0:=hdq (show betw (ts.take k)= []from by rw[h0];simp[betw])
    have HGE:=hdq HG7.out
    clear hd hat hw hwent hbS ht hnx hsm h0 hf7 hat0 HC
    go_wp2_with fail
    refine HCC.out.mono ?_
    rintro _ w3 ⟨v3,rfl,h3,hg3⟩
    have H3:=hdq h3
    have HG3:=hdq (HGE.out.trans hg3)
    clear h3 hg3 c0 c1 c2 HCC HG7 HW7 HGE HK7
    go_wp2_with fail
    go_roundw
    case rel=>exact⟨k+1,v3,by omega,by go_num,by have h9:=H3.out;rw[HE0.out]at h9;rw[HN.out];exact h9,HG3.out⟩
    case measure=>simp[intOf];omega
   ·have e0:decide ((0:Int) < (k:Int))=true:=by simp;omega
    have e0n:decide (0 < k)=true:=by simp;omega
    rw[if_neg h0]at hnx
    have HN:=hdq hnx
    have hroom:l.length+sumT ((betw (ts.take k)++ [[44]])++t)≤140737488355328:=by rw[←hnx];have:=HL.out;omega
    have hr1:=putsT_room (s:=(l,wd)) hroom
    have hr0:l.length+sumT (betw (ts.take k)++ [[44]])≤140737488355328:=by rw[sumT_app]at hroom;omega
    have hr2:=putsT_room (s:=(l,wd)) hr0
    have HCM:=hdq (put1_at HW7.out ⟨#[44]⟩ [44] rfl (by decide) hr2 (wr.heap.size+1) (by simp) _ rfl)
    have HR:=hdq hr1
    clear hd hat hw hwent hbS ht hnx hsm h0 hf7 hat0 hroom hr1 hr0 hr2
    go_wp2_with fail
    refine HCM.out.mono ?_
    rintro _ w2 ⟨v2,rfl,h2,hg2⟩
    have hk2:=(hg2.bk HK7.out.1 (fun hh=>HK7.out.2 hh)).1
    have k0:=hk2.cell 0
    have k1:=hk2.cell 1
    have k2:=hk2.cell 2
    have kl:=hk2.lt
    simp only[getsL]at k0 k1 k2
    have HG2:=hdq (HG7.out.trans hg2)
    have h2':=h2.puts
    have HCC:=hdq (HC.out v2 _ _ w2 h2' HG2.out (by exact HR.out))
    clear h2 hg2 h2' hk2 c0 c1 c2 HC HG7 HW7 HK7 HCM
    go_wp2_with fail
    refine HCC.out.mono ?_
    rintro _ w3 ⟨v3,rfl,h3,hg3⟩
    have H3:=hdq h3.puts
    have HG3:=hdq (HG2.out.trans hg3)
    clear h3 hg3 k0 k1 k2 kl HCC HG2
    go_wp2_with fail
    go_roundw
    case rel=>exact⟨k+1,v3,by omega,by go_num,by rw[HN.out];exact H3.out,HG3.out⟩
    case measure=>simp[intOf];omega
  ·have e:ts.take k=ts:=List.take_of_length_le (by rw[HT.out,←HM.out];omega)
   rw[e]at hw
   have HWk:=hdq hw.out
   have HGk:=hdq hwent.out
   clear hw hwent
   go_wp2_with fail
   go_end0
   exact⟨_,rfl,HWk.out,HGk.out⟩

theorem clx_any {B b:Nat} {v:Value} {l:List UInt8} {wd:Bool} {w:World} {S:Nat→Prop} {Z:Prop} {A:Option Addr} {c g1:Nat} (h:WrAt B b v l wd w) (ht:Tb B w) (hS:∀x,S x→x < B) (hk:Bk w g1 88 #[.pointer (some ⟨b,0,none⟩)]) (hn:¬Own b v g1)
  (k:Int) (nm:ByteArray) (n:Int) (args:Exs) (at_:Int) (hx:SlR (fun b o=>ExR w S Z args b o) args.len 64 A c) (hn64:in64 n) (ih:PX k nm n args):
  Puts 164 (#[.agg #[.int .u8 k,.string nm,.int .i64 n,.slice A args.len c,.int .i64 at_]]++ #[.pointer (some ⟨g1,0,none⟩)]) B b v w (arE 0 (lvlE k,innE k nm n (txX args))):=by
 intro v1 l1 wd1 w1 h1 hg hl
 have hf:Fr NoT w1 (w1.alloc (.cells #[.int .u8 k,.string nm,.int .i64 n,.slice A args.len c,.int .i64 at_] 41)):=(Fr.refl _ _).alloc _
 have hk1:=(hg.bk hk hn).1
 have y0:=hk1.cell 0
 have yl:=hk1.lt
 simp only[getsL]at y0
 have hsm:=(hg.same h hS).trans (hf.same fun x hx=>⟨ltq (hS x hx) h1.base,id⟩)
 have HC:=hdq (ih at_ B b v1 l1 wd1 _ S Z A c 0 (h1.fr hf) ((ht.went hg h).fr hf h1.base) hS (hx.imp fun _ _ hx=>ExR.keep hsm hx) hn64 (by decide) hl)
 have HF:=hdq hf
 obtain⟨tx,htx⟩:=nmq (arE 0 (lvlE k,innE k nm n (txX args)))
 rw[←htx]at HC ⊢
 clear h ht hS hk hn hx hn64 ih h1 hg hl hf hk1 hsm htx
 go_enter Tryz.func164,Tryz.ntmps164
 go_wp2_with fail
 refine HC.out.mono ?_
 rintro _ w2 ⟨v2,rfl,h2,hg2⟩
 have H2:=hdq (aiq h2 ((Went.of (b:=b) (v:=v1) HF.out).trans hg2))
 clear h2 hg2
 go_wp2_with fail
 go_end0
 exact⟨v2,rfl,H2.out.1,H2.out.2⟩
theorem wask_any {B b:Nat} {v:Value} {l:List UInt8} {wd:Bool} {w:World} {S:Nat→Prop} {Z:Prop} {A1 A2 A3 A4:Option Addr} {c1 c2 c3 c4 n1 n3 n4:Nat} (h:WrAt B b v l wd w) (ht:Tb B w) (hS:∀x,S x→x < B) (word:ByteArray) (hw:word.data.toList≠ []) (k:Int) (nm:ByteArray) (at_:Int)
  (k1:Int) (a1:Exs) (o1:Cds) (at1:Int) (hx:SlR (fun b o=>CdR w S Z (.cons k1 a1 o1 at1 .nil) b o) 1 64 A2 c2) (ih:PC k1 a1 o1) (hlen:l.length+sumT ([word.data.toList, [40]]++(arC 0 (hgtC k1,innC k1 (txX a1) (txC o1))++ [[41]]))≤140737488355328):
  Calls Tryz.prog 166 #[.pointer (some ⟨b,0,none⟩),.string word,.agg #[.int .u8 k,.string nm,.slice A1 n1 c1,.slice A2 1 c2,.slice A3 n3 c3,.slice A4 n4 c4,.int .i64 at_]] w (PutW B b v (putsT (l,wd) ([word.data.toList, [40]]++(arC 0 (hgtC k1,innC k1 (txX a1) (txC o1))++ [[41]]))) (.tuple #[]) w):=by
 obtain⟨tx,htx⟩:=nmq (arC 0 (hgtC k1,innC k1 (txX a1) (txC o1)))
 unfold PC at ih
 rw[←htx]at hlen ⊢
 have hr1:l.length+sumT [word.data.toList, [40]]≤140737488355328:=by rw[sumT_app]at hlen;omega
 have hr2:=putsT_room (s:=(l,wd)) hlen
 have hr3:=putsT_room hr2
 have hr2':(putsT (l,wd) [word.data.toList, [40]]).1.length +sumT tx≤140737488355328:=by rw[sumT_app]at hr2;omega
 obtain⟨bA,oA,rfl,hat⟩:=hx.2.2 (by decide)
 obtain⟨W,hW⟩:=nmq (w.alloc (.cells #[.int .u8 k,.string nm,.slice A1 n1 c1,.slice (some ⟨bA,oA,none⟩) 1 c2,.slice A3 n3 c3,.slice A4 n4 c4,.int .i64 at_] 39))
 have hf:Fr NoT w W:=by rw[hW];exact(Fr.refl _ _).alloc _
 have hk:Bk W w.heap.size 39 #[.int .u8 k,.string nm,.slice A1 n1 c1,.slice (some ⟨bA,oA,none⟩) 1 c2,.slice A3 n3 c3,.slice A4 n4 c4,.int .i64 at_]:=by rw[hW];exact Bk.new w _ _
 have hsz:W.heap.size=w.heap.size+1:=by rw[hW];simp
 have hnew:=h.new (lrq w.heap.size)
 have H1:=hdq (put2 (h.fr hf) word ⟨#[40]⟩ word.data.toList [40] rfl rfl hw (by decide) hr1)
 have HR:=hdq (aiq hr2' hr3)
 have HB:=hdq (show ∀w1 v1,Went b v v1 W w1→CdR w1 S Z (.cons k1 a1 o1 at1 .nil) bA oA∧Bk w1 w.heap.size 39 #[.int .u8 k,.string nm,.slice A1 n1 c1,.slice (some ⟨bA,oA,none⟩) 1 c2,.slice A3 n3 c3,.slice A4 n4 c4,.int .i64 at_]∧Tb B w1 from
  fun w1 v1 hg=>⟨CdR.keep ((hf.same fun x hx=>⟨ltq (hS x hx) h.base,id⟩).trans (hg.same (h.fr hf) hS)) hat,(hg.bk hk hnew).1,(ht.fr hf h.base).went hg (h.fr hf)⟩)
 have HI:=hdq ih
 have HTX:=hdq htx
 have HSB:=hdq hS
 have HW:=hdq hW
 have HSZ:=hdq hsz
 have HF:=hdq hf
 have HE:=hdq (fun(w0:World) (v0:Value) (l0:List UInt8) (wd0:Bool) (h0:WrAt B b v0 l0 wd0 w0) hl=>put1 h0 ⟨#[41]⟩ [41] rfl (by decide) hl)
 rw[hsz]at H1
 clear h ht hS hx hlen hr1 hr2 hr3 hr2' hat ih htx hw hf hk hnew hsz hW
 go_enter Tryz.func166,Tryz.ntmps166
 go_wp2_with fail
 rw[←HW.out]
 refine H1.out.mono ?_
 rintro _ w1 ⟨v1,rfl,h1,hg1⟩
 obtain⟨hx1,hk1,ht1⟩:=HB.out w1 v1 hg1
 obtain⟨A1',q1,A2',q2,s1,s2,hbS,d0,d1,d2,d3⟩:=hx1.first
 have x3:=hk1.cell 3
 have xl1:=hk1.lt
 simp only[getsL]at x3
 have hlA:bA < w1.heap.size:=ltq (HSB.out _ hbS) h1.base
 have HC:=hdq (HI.out at1 B b v1 _ _ w1 S Z A1' q1 A2' q2 0 h1 ht1 HSB.out s1 s2 (by decide) (by rw[←HTX.out];exact HR.out.1))
 rw[←HTX.out]at HC
 have HG1:=hdq hg1
 clear h1 hg1 hx1 hk1 ht1 s1 s2 hbS H1
 go_wp2_with fail
 refine HC.out.mono ?_
 rintro _ w2 ⟨v2,rfl,h2,hg2⟩
 have HC2:=hdq (HE.out _ _ _ _ h2 HR.out.2)
 have HG2:=hdq (HG1.out.trans hg2)
 clear h2 hg2 d0 d1 d2 d3 x3 xl1 hlA HC
 go_wp2_with fail
 refine HC2.out.mono ?_
 rintro _ w3 ⟨v3,rfl,h3,hg3⟩
 have H3:=hdq h3
 have G3:=hdq ((Went.of (b:=b) (v:=v) HF.out).trans (HG2.out.trans hg3))
 clear h3 hg3
 go_wp2_with fail
 go_end0
 exact⟨v3,rfl,H3.out.puts.puts,G3.out⟩
def PS (k:Int) (nm:ByteArray) (args:Exs) (cond:Cds) (body els:Sts):Prop:=∀(at_:Int) (B b:Nat) (v:Value) (l:List UInt8) (wd:Bool) (w:World) (S:Nat→Prop) (Z:Prop) (A1 A2 A3 A4:Option Addr) (c1 c2 c3 c4:Nat),WrAt B b v l wd w→Tb B w→(∀x,S x→x < B)→
 SlR (fun b o=>ExR w S Z args b o) args.len 64 A1 c1→SlR (fun b o=>CdR w S Z cond b o) cond.len 64 A2 c2→SlR (fun b o=>StR w S Z body b o) body.len 128 A3 c3→SlR (fun b o=>StR w S Z els b o) els.len 128 A4 c4→
 l.length+sumT (innS k nm.data.toList (txX args) (txC cond) (txS body) (txS els))≤140737488355328→
 Calls Tryz.prog 103 #[.pointer (some ⟨b,0,none⟩),.agg #[.int .u8 k,.string nm,.slice A1 args.len c1,.slice A2 cond.len c2,.slice A3 body.len c3,.slice A4 els.len c4,.int .i64 at_]] w (PutW B b v (putsT (l,wd) (innS k nm.data.toList (txX args) (txC cond) (txS body) (txS els))) (.tuple #[]) w)
def PSs (xs:Sts):Prop:=∀(i:Nat) (k:Int) (nm:ByteArray) (args:Exs) (cond:Cds) (body els:Sts) (at_:Int) (r:Sts),Sts.drop i xs= .cons k nm args cond body els at_ r→PS k nm args cond body els
def PB (xs:Sts):Prop:=∀(B b:Nat) (v:Value) (l:List UInt8) (wd:Bool) (w:World) (S:Nat→Prop) (Z:Prop) (A:Option Addr) (c:Nat),WrAt B b v l wd w→Tb B w→(∀x,S x→x < B)→SlR (fun b o=>StR w S Z xs b o) xs.len 128 A c→l.length+sumT (blkT (txS xs))≤140737488355328→
 Calls Tryz.prog 40 #[.pointer (some ⟨b,0,none⟩),.slice A xs.len c] w (PutW B b v (putsT (l,wd) (blkT (txS xs))) (.tuple #[]) w)
theorem txS_drop:∀(xs:Sts) (i:Nat) {k nm args cond body els at_ r},Sts.drop i xs= .cons k nm args cond body els at_ r→(txS xs)[i]?=some (innS k nm.data.toList (txX args) (txC cond) (txS body) (txS els))
 | .nil,i,_,_,_,_,_,_,_,_,h=>by cases i<;>simp[Sts.drop]at h
 | .cons ..,0,_,_,_,_,_,_,_,_,h=>by
  simp only[Sts.drop]at h
  injection h with e1 e2 e3 e4 e5 e6 e7 e8
  subst e1 e2 e3 e4 e5 e6
  rfl
 | .cons _ _ _ _ _ _ _ rest,i+1,_,_,_,_,_,_,_,_,h=>by
  simp only[Sts.drop]at h
  simp only[txS,List.getElem?_cons_succ]
  exact txS_drop rest i h
theorem flat_next {ts:List Tx} {k:Nat} {t:Tx} (h:ts[k]?=some t):(ts.take (k+1)).flatten =(ts.take k).flatten ++t:=by
 rw[List.take_add_one,h]
 simp
theorem flat_sum {ts:List Tx} {k:Nat}:sumT (ts.take k).flatten ≤sumT ts.flatten:=by
 have e:ts.take k++ts.drop k=ts:=List.take_append_drop _ _
 have e2:ts.flatten=(ts.take k).flatten ++(ts.drop k).flatten :=by rw[←List.flatten_append,e]
 rw[e2,sumT_app]
 omega
theorem pb_any (xs:Sts) (ih:PSs xs):PB xs:=by
 intro B b v l wd w S Z A c h ht hS hx hlen
 obtain⟨ts,hts⟩:=nmq (txS xs)
 have hl:xs.len≤9223372036854775807:=leq9 hx.1 hx.2.1.1
 have htl:ts.length=xs.len:=by rw[hts];exact txS_len xs
 have htd:=fun(i:Nat) k nm args cond body els at_ r (hd:Sts.drop i xs= .cons k nm args cond body els at_ r)=>(show ts[i]?=some (innS k nm.data.toList (txX args) (txC cond) (txS body) (txS els))from by rw[hts];exact txS_drop xs i hd)
 unfold blkT at hlen ⊢
 rw[←hts]at hlen ⊢
 rw[show [123]::(ts.flatten++ [[125]])= [[123]]++(ts.flatten++ [[125]])from rfl]at hlen ⊢
 have hr1:l.length+sumT [[123]]≤140737488355328:=by rw[sumT_app]at hlen;omega
 have hr2:=putsT_room (s:=(l,wd)) hlen
 have hr3:=putsT_room hr2
 have hr2':(putsT (l,wd) [[123]]).1.length +sumT ts.flatten≤140737488355328:=by rw[sumT_app]at hr2;omega
 have HR:=hdq (aiq hr2' hr3)
 have H1:=hdq (put1 h ⟨#[123]⟩ [123] rfl (by decide) hr1)
 have HE:=hdq (fun(w0:World) (v0:Value) (l0:List UInt8) (wd0:Bool) (h0:WrAt B b v0 l0 wd0 w0) hl=>put1 h0 ⟨#[125]⟩ [125] rfl (by decide) hl)
 have HX:=hdq hx
 have HI:=hdq ih
 have HTB:=hdq (show ∀w1 v1,Went b v v1 w w1→Tb B w1 from fun w1 v1 hg=>ht.went hg h)
 have HSM:=hdq (show ∀w1 v1,Went b v v1 w w1→SameS S w w1 from fun w1 v1 hg=>hg.same h hS)
 have HS:=hdq hS
 have HT:=hdq htl
 have HTD:=hdq htd
 obtain⟨m,hm⟩:=nmq xs.len
 rw[←hm]at hl ⊢
 have HM:=hdq hm
 clear ih hx hS hm h hlen htl ht hts hr1 hr2 hr3 hr2' htd
 go_enter Tryz.func40,Tryz.ntmps40
 go_wp2_with fail
 refine H1.out.mono ?_
 rintro _ w0 ⟨v0,rfl,h0,hg0⟩
 have H0:=hdq (aiq h0 hg0)
 clear h0 hg0 H1
 go_wp2_with fail
 go_loopw [11] (fun i wr=>∃(k:Nat) (v':Value),k≤m∧i= .int .i64 k∧Hid (WrAt B b v' (putsT (putsT (l,wd) [[123]]) (ts.take k).flatten).1 (putsT (putsT (l,wd) [[123]]) (ts.take k).flatten).2 wr)∧Hid (Went b v v' w wr)) (fun i _=>m - (intOf i).toNat)
 case atStart=>exact⟨0,v0,Nat.zero_le _,rfl,H0.out.1,H0.out.2⟩
 case round=>
  obtain⟨k,v',hk,rfl,hw,hwent⟩:=hrel
  by_cases hlt:k < m
  ·obtain⟨a0,a1,a2,a3,a4,a5,a6,ar,hd⟩:=Sts.drop_cons (show k < xs.len from by rw[←HM.out];exact hlt)
   obtain⟨bA,oA,rfl,hat⟩:=HX.out.2.2 (by rw[←HM.out];omega)
   have hf7:∀cs,Fr NoT wr (wr.alloc (.cells cs 39)):=fun cs=>(Fr.refl _ _).alloc _
   have hat1:=(StR.keep (HSM.out _ _ hwent.out) hat).drop k
   rw[hd]at hat1
   obtain⟨⟨hbS,_,r0,_,d0,d1,d6⟩,⟨A1,c1,d2,s1⟩,⟨A2,c2,d3,s2⟩,⟨A3,c3,d4,s3⟩,⟨A4,c4,d5,s4⟩,_⟩:=hat1
   have hxr:bA < wr.heap.size:=ltq (HS.out _ hbS) hw.out.base
   have hlt':(k:Int) < (m:Int):=by omega
   have hge:(0:Int)≤(k:Int):=by omega
   obtain⟨t,htt⟩:=nmq (innS a0 a1.data.toList (txX a2) (txC a3) (txS a4) (txS a5))
   have ht:=HTD.out k _ _ _ _ _ _ _ _ hd
   rw[←htt]at ht
   have hnx:=flat_next ht
   have hsm:=flat_sum (ts:=ts) (k:=k+1)
   have hps:=HI.out k _ _ _ _ _ _ _ _ hd
   have hroom:(putsT (l,wd) [[123]]).1.length +sumT ((ts.take k).flatten ++t)≤140737488355328:=by rw[←hnx];have:=HR.out.1;omega
   obtain⟨W,hW⟩:=nmq (wr.alloc (.cells #[.int .u8 a0,.string a1,.slice A1 a2.len c1,.slice A2 a3.len c2,.slice A3 a4.len c3,.slice A4 a5.len c4,.int .i64 a6] 39))
   have hf:Fr NoT wr W:=by rw[hW];exact hf7 _
   have hss:=hf.same (S:=S) fun x hx=>⟨ltq (HS.out x hx) hw.out.base,id⟩
   have HC:=hdq (hps a6 B b v' _ _ W S Z A1 A2 A3 A4 c1 c2 c3 c4 (hw.out.fr hf) ((HTB.out _ _ hwent.out).fr hf hw.out.base) HS.out (s1.imp fun _ _ hx=>ExR.keep hss hx) (s2.imp fun _ _ hx=>CdR.keep hss hx) (s3.imp fun _ _ hx=>StR.keep hss hx) (s4.imp fun _ _ hx=>StR.keep hss hx) (by rw[←htt];exact putsT_room hroom))
   rw[←htt]at HC
   have HG:=hdq (hwent.out.trans (Went.of hf))
   have HN:=hdq hnx
   have HWE:=hdq hW
   clear hd hat hw hwent hbS ht hnx hsm hf hf7 htt hps hroom hss s1 s2 s3 s4 hW r0
   go_wp2_with fail
   rw[←HWE.out]
   refine HC.out.mono ?_
   rintro _ w3 ⟨v3,rfl,h3,hg3⟩
   have H3:=hdq h3.puts
   have HG3:=hdq (HG.out.trans hg3)
   clear h3 hg3 d0 d1 d2 d3 d4 d5 d6 HC HG HWE
   go_wp2_with fail
   go_roundw
   case rel=>exact⟨k+1,v3,by omega,by go_num,by rw[HN.out];exact H3.out,HG3.out⟩
   case measure=>simp[intOf];omega
  ·have e:ts.take k=ts:=List.take_of_length_le (by rw[HT.out,←HM.out];omega)
   rw[e]at hw
   have HC:=hdq (HE.out _ _ _ _ hw.out HR.out.2)
   have HGk:=hdq hwent.out
   clear hw hwent
   go_wp2_with fail
   refine HC.out.mono ?_
   rintro _ w3 ⟨v3,rfl,h3,hg3⟩
   have H3:=hdq h3
   have HG3:=hdq (HGk.out.trans hg3)
   clear h3 hg3 HC HGk
   go_wp2_with fail
   go_end0
   exact⟨_,rfl,H3.out.puts.puts,HG3.out⟩
end Go.Proofs.YtmopichdofgndaaGreatDoor
