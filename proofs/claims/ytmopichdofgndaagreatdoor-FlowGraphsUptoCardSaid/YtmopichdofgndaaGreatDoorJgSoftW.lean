/- law11: CheckDoes. -/
import Derived.Test.YtmopichdofgndaaGreatDoorJgRtTree
import Derived.Test.YtmopichdofgndaaGreatDoorBaTr
import Derived.LaidMore
import Derived.Stop.LaidErr
import Derived.MakeChecks
import Derived.Lib.LaidTab
import Derived.LaidLaws
import Derived.RowKitTokens
import Derived.Lib.Builder
import Derived.Lib.AppendStr
import Derived.Lib.AppendIntMem
import Derived.Lib.UnsafeStr
import Derived.Lib.Bytealg
import Derived.Laws.Externs
import Derived.Test.YtmopichdofgndaaGreatDoorJnInC
import Derived.Test.YtmopichdofgndaaGreatDoorJgTrOpen
import Derived.Lib.ItoaLen
set_option linter.all false
set_option maxRecDepth 100000
namespace Go.Proofs.YtmopichdofgndaaGreatDoor
open Go.RowKit Go.Shelf
def zlq (W:World)(e:Ending)(w':World):Prop:=e= .returned (.bool true)/\Below W.heap.size W w'
theorem zca:∀xs:Exs,xs.bare.bare=xs.bare
 | .nil =>rfl
 | .cons _ _ _ args _ r=>by simp only[Exs.bare,zca args,zca r]
theorem zcV:∀xs:Cds,xs.bare.bare=xs.bare
 | .nil =>rfl
 | .cons _ args of_ _ r=>by simp only[Cds.bare,zca args,zcV of_,zcV r]
theorem zbJ:∀xs:Sts,xs.bare.bare=xs.bare
 | .nil =>rfl
 | .cons _ _ args cond body els _ r=>by simp only[Sts.bare,zca args,zcV cond,zbJ body,zbJ els,zbJ r]
theorem zig (t:Tre):t.bare.bare=t.bare:=by
 simp only[Tre.bare,List.map_map,zbJ]
 congr 1
 ·refine List.map_congr_left λx _=>?_;simp only[Function.comp,Prc.bare,List.map_map,zbJ]
  congr 1
open Go.RowKit Go.Shelf Go.ChangeShapes Go.WideShapes
structure TwEnv (w:World):Prop where
 sp:SpEnv w
 tab:Lib.TabIs Tryz.prog w "internal/strconv.uint64pow10" .u64 Lib.pow10Tab
theorem TwEnv.keep {w w':World}(h:TwEnv w)(hb:Below w.heap.size w w'):TwEnv w':=
 ⟨h.sp.keep hb,by have:=h.tab;unfold Lib.TabIs at this ⊢;exact zcp hb this⟩
theorem gPow:Tryz.prog.globalNamed "internal/strconv.uint64pow10" =some 1:=by kernel_rfl
theorem znt:Tryz.prog.globalNamed "strings.asciiSpace" =some 0:=by kernel_rfl
theorem tPow:(Tryz.prog.globals[1]?).map (·.type)=some 274:=by kernel_rfl
theorem znu:(Tryz.prog.globals[0]?).map (·.type)=some 267:=by kernel_rfl
theorem cU64:Tryz.prog.cellsOf 254=1:=by kernel_rfl
theorem cU8:Tryz.prog.cellsOf 5=1:=by kernel_rfl
theorem cPow:Tryz.prog.cellsOf 274=20:=by kernel_rfl
theorem znv:Tryz.prog.cellsOf 267=256:=by kernel_rfl
theorem dPow {H:Type}:(Rows.laid_internal_strconv_uint64pow10:DataW H)=Lib.tabData .u64 Lib.pow10Tab:=by rfl
theorem znw {H:Type}:(Rows.laid_strings_asciiSpace:DataW H)=Lib.tabData .u8 Lib.asciiSpaceTab:=by rfl
theorem zfe {W:World}(hL:laidMet Tryz.prog [("math/bits.deBruijn32tab",Rows.laid_math_bits_deBruijn32tab),("math/bits.deBruijn64tab",Rows.laid_math_bits_deBruijn64tab),("internal/strconv.uint64pow10",Rows.laid_internal_strconv_uint64pow10),("unicode.White_Space",Rows.laid_unicode_White_Space),("strings.asciiSpace",Rows.laid_strings_asciiSpace)] W):TwEnv W:=by
 have h2:=hL.tail.tail;have h7:=h2.tail.tail;rw[dPow]at h2;rw[znw]at h7;exact⟨⟨Lib.tabIs_of_head znt znu Tryz.underlying267 Tryz.underlying5 cU8 znv h7⟩,Lib.tabIs_of_head gPow tPow Tryz.underlying274 Tryz.underlying254 cU64 cPow h2⟩
open Go.RowKit
def KinV (u v:Value):Prop:=v=u\/(∃k n m,u= .int k n/\v= .int k m)\/∃a b,u= .string a/\v= .string b
theorem KinV.trans {u v x:Value}(h:KinV u v)(k:KinV v x):KinV u x:=by
 rcases h with rfl|⟨q,n,m,rfl,rfl⟩|⟨a,b,rfl,rfl⟩
 ·exact k
 ·rcases k with rfl|⟨q2,n2,m2,e,rfl⟩|⟨a,b,e,rfl⟩
  ·exact .inr (.inl ⟨_,_,_,rfl,rfl⟩)
  ·injection e with e1 e2;subst e1;exact .inr (.inl ⟨_,_,_,rfl,rfl⟩)
  ·cases e
 ·rcases k with rfl|⟨q2,n2,m2,e,rfl⟩|⟨a,b,e,rfl⟩
  ·exact .inr (.inr ⟨_,_,rfl,rfl⟩)
  ·cases e
  ·exact .inr (.inr ⟨_,_,rfl,rfl⟩)
structure Soft (L U:Nat)(w w':World):Prop where
 fr:Fr (λb=>L<=b/\b < U) w w'
 fz:∀p,w'.frozen? p=w.frozen? p
 kin:∀p u,w.cell? p=some u->∃v,w'.cell? p=some v/\KinV u v
theorem Soft.refl (L U:Nat)(w:World):Soft L U w w:=⟨Fr.refl _ _,λ_=>rfl,λp u h=>⟨u,h,.inl rfl⟩⟩
theorem Soft.int {L U:Nat}{w w':World}(h:Soft L U w w'){p:Addr}{k:IntKind}{n:Int}(e:w.cell? p=some (.int k n)):∃m,w'.cell? p=some (.int k m):=by
 obtain⟨v,h1,h2⟩:=h.kin p _ e;rcases h2 with rfl|⟨q,n,m,e2,rfl⟩|⟨a,b,e2,rfl⟩
 ·exact⟨_,h1⟩
 ·injection e2 with e3 e4;subst e3;exact⟨_,h1⟩
 ·cases e2
theorem Soft.slice {L U:Nat}{w w':World}(h:Soft L U w w'){p:Addr}{A:Option Addr}{n c:Nat}(e:w.cell? p=some (.slice A n c)):w'.cell? p=some (.slice A n c):=by
 obtain⟨v,h1,h2⟩:=h.kin p _ e;rcases h2 with rfl|⟨q,n,m,e2,rfl⟩|⟨a,b,e2,rfl⟩
 ·exact h1
 ·cases e2
 ·cases e2
theorem Soft.thaw {L U:Nat}{w w':World}(h:Soft L U w w'){p:Addr}(e:w.frozen? p=false):w'.frozen? p=false:=(h.fz p).trans e
theorem Soft.put {L U:Nat}{w w':World}(h:Soft L U w w'){b o:Nat}{u v:Value}(e:w'.cell? ⟨b,o,none⟩=some u)(hk:KinV u v)(hb:L<=b/\b < U):Soft L U w (w'.setCell ⟨b,o,none⟩ v):=by
 refine⟨h.fr.setCell (p:=⟨b,o,none⟩) (.inl hb) v,λp=>(World.frozen?_setCell _ _ _ _).trans (h.fz p),λp x hp=>?_⟩;obtain⟨y,h1,h2⟩:=h.kin p x hp;by_cases hq:(⟨b,o,none⟩:Addr)=p
 ·subst hq;rw[e]at h1;injection h1 with h1;subst h1;exact⟨v,World.cell?_setCell_same _ _ _ e,h2.trans hk⟩
 ·exact⟨y,(World.cell?_setCell_other _ _ _ _ hq).trans h1,h2⟩
theorem Soft.putInt {L U:Nat}{w w':World}(h:Soft L U w w'){b o:Nat}{k:IntKind}{n:Int}(m:Int)(e:w'.cell? ⟨b,o,none⟩=some (.int k n))(hb:L<=b/\b < U):Soft L U w (w'.setCell ⟨b,o,none⟩ (.int k m)):=h.put e (.inr (.inl ⟨_,_,_,rfl,rfl⟩)) hb
theorem ExR.at_ {w:World}{S:Nat->Prop}{xs:Exs}{b o k:Nat}(h:ExR w S True xs b o)(hk:k < xs.len):S b/\(∃n,w.cell? ⟨b,o+k*5+2,none⟩=some (.int .i64 n))/\w.frozen? ⟨b,o+k*5+2,none⟩=false:=by
 have h1:=ExR.drop k h;obtain⟨a0,a1,a2,a3,a4,ar,hd⟩:=Exs.drop_cons hk;rw[hd]at h1;obtain⟨⟨hb,hf,_,_,_,_,_,h2,_⟩,_⟩:=h1;exact⟨hb,⟨_,h2⟩,hf trivial 2 (by decide)⟩
abbrev Tx:=List (List UInt8)
def lvlE (k:Int):Nat:=if 10<=k then 1 else if 7<=k then 3 else if 5<=k then 2 else 4
def hgtC (k:Int):Nat:=if k=11 then 1 else if k=10 then 2 else 3
def sgnE (k:Int):List UInt8:=if k=5 then [43]else if k=6 then [45]else if k=7 then [42]else if k=8 then [47]else if k=9 then [37]else if k=10 then [60,60]else [62,62]
def sgnC (k:Int):List UInt8:=if k=3 then [60]else if k=4 then [60,61]else if k=5 then [62]else if k=6 then [62,61]else if k=7 then [61,61]else [33,61]
def arE (least:Nat)(p:Nat×Tx):Tx:=if p.1 < least then [40]::(p.2++ [[41]])else p.2
def arC (least:Nat)(p:Nat×Tx):Tx:=if p.1 < least then [91]::(p.2++ [[93]])else p.2
def nthX (l:List (Nat×Tx))(i:Nat):Nat×Tx:=l.getD i (4, [])
def innE (k:Int)(nm:ByteArray)(n:Int)(a:List (Nat×Tx)):Tx:=
 if k=1 then [Lib.itoa n]else if k=2 then [nm.data.toList]else if k=3 then nm.data.toList:: [91]::(arE 0 (nthX a 0)++ [[93]])
 else if k=4 then [45]::arE 4 (nthX a 0)else arE (lvlE k) (nthX a 0)++sgnE k::arE (lvlE k+1) (nthX a 1)
def txX:Exs->List (Nat×Tx)
 | .nil => []
 | .cons k nm n args _ r=>(lvlE k,innE k nm n (txX args))::txX r
def innC (k:Int)(a c:List (Nat×Tx)):Tx:=
 if k=1 then [[116,114,117,101]]else if k=2 then [[102,97,108,115,101]]else if k=9 then [33]::arC 3 (nthX c 0)
 else if k=10 then arC 2 (nthX c 0)++ [38,38]::arC 3 (nthX c 1)else if k=11 then arC 1 (nthX c 0)++ [124,124]::arC 2 (nthX c 1)
 else arE 0 (nthX a 0)++sgnC k::arE 0 (nthX a 1)
def txC:Cds->List (Nat×Tx)
 | .nil => []
 | .cons k args of_ _ r=>(hgtC k,innC k (txX args) (txC of_))::txC r
def betw:List Tx->Tx
 | []=> []
 | [x]=>x
 |x::y::r=>x++ [44]::betw (y::r)
def blkT (l:List Tx):Tx:= [123]::(l.flatten++ [[125]])
def askT (w:List UInt8)(c:List (Nat×Tx)):Tx:=w:: [40]::(arC 0 (nthX c 0)++ [[41]])
def innS (k:Int)(nm:List UInt8)(a c:List (Nat×Tx))(b e:List Tx):Tx:=
 if k=7 then askT [105,102] c++(blkT b++(if e= []then []else [101,108,115,101]::blkT e))
 else if k=8 then askT [119,104,105,108,101] c++blkT b
 else if k=5 then askT [97,115,115,117,109,101] c++ [[59]]
 else if k=6 then askT [97,115,115,101,114,116] c++ [[59]]
 else if k=1 then [[115,107,105,112], [59]]
 else if k=4 then [[105,110,112,117,116],nm, [59]]
 else if k=9 then [99,97,108,108]::nm:: [40]::(betw (a.map (arE 0))++ [[41], [59]])
 else if k=3 then nm:: [91]::(arE 0 (nthX a 0)++ [93]:: [61]::(arE 0 (nthX a 1)++ [[59]]))
 else nm:: [61]::(arE 0 (nthX a 0)++ [[59]])
def txS:Sts->List Tx
 | .nil => []
 | .cons k nm args cond body els _ r=>innS k nm.data.toList (txX args) (txC cond) (txS body) (txS els)::txS r
def TkOk (u:List UInt8):Prop:=(ziB u).2 =(u.length,0)
instance (u:List UInt8):Decidable (TkOk u):=inferInstanceAs (Decidable ((ziB u).2 =(u.length,0)))
def tkOf (u:List UInt8):Tk:=⟨(ziB u).1,u,0⟩
def isCl (u:List UInt8):Bool:=decide (u∈([[60], [62], [61], [33]]:List (List UInt8)))
def noCl (c:UInt8):Bool:=c != 60&&c != 61&&c != 62
def hdOk (r:Tx):Bool:=noCl ((r.headD []).headD 0)
def Chn:Tx->Prop
 | []=>True
 |t::r=>TkOk t/\(isCl t=true->hdOk r=true)/\Chn r
structure Good (a:Tx):Prop where
 ne:a≠ []
 chn:Chn a
 hd:hdOk a=true
 last:isCl (a.getLastD [])=false
/-! with less levels -/
/-! how many levels are needed -/
def arD (least:Nat)(p:Nat×Nat):Nat:=if p.1 < least then p.2+1 else p.2
def nthD (l:List (Nat×Nat))(i:Nat):Nat×Nat:=l.getD i (4,0)
def inD (k:Int)(a:List (Nat×Nat)):Nat:=
 if k=1 then 0 else if k=2 then 0 else if k=3 then arD 0 (nthD a 0)+1 else if k=4 then arD 4 (nthD a 0)+1 else max (arD (lvlE k) (nthD a 0)) (arD (lvlE k+1) (nthD a 1))
def ndX:Exs->List (Nat×Nat)
 | .nil => []
 | .cons k _ _ args _ r=>(lvlE k,inD k (ndX args))::ndX r
def inDC (k:Int)(a c:List (Nat×Nat)):Nat:=
 if k=1 then 0 else if k=2 then 0 else if k=9 then arD 3 (nthD c 0)+1
 else if k=10 then max (arD 2 (nthD c 0)) (arD 3 (nthD c 1))else if k=11 then max (arD 1 (nthD c 0)) (arD 2 (nthD c 1))
 else max (arD 0 (nthD a 0)) (arD 0 (nthD a 1))
def ndC:Cds->List (Nat×Nat)
 | .nil => []
 | .cons k args of_ _ r=>(hgtC k,inDC k (ndX args) (ndC of_))::ndC r
def maxL (l:List Nat):Nat:=l.foldr max 0
def inDS (k:Int)(a c:List (Nat×Nat))(b e:List Nat):Nat:=
 if k=7 then max (arD 0 (nthD c 0)) (max (maxL b+1) (if e= []then 0 else maxL e+1))
 else if k=8 then max (arD 0 (nthD c 0)) (maxL b+1)
 else if k=5 then arD 0 (nthD c 0)
 else if k=6 then arD 0 (nthD c 0)
 else if k=1 then 0 else if k=4 then 0
 else if k=9 then maxL (a.map (arD 0))
 else if k=3 then max (arD 0 (nthD a 0)+1) (arD 0 (nthD a 1))
 else arD 0 (nthD a 0)
def ndS:Sts->List Nat
 | .nil => []
 | .cons k _ args cond body els _ r=>inDS k (ndX args) (ndC cond) (ndS body) (ndS els)::ndS r
/-! numbers are of 64 bits -/
/-! expressions -/
structure GS1 (p:Tx)(q:Nat)(x:St):Prop where
 good:Good p
 gram:∀d,q<=d->StG d (p.map tkOf) x
def GS:Sts->Prop
 | .nil =>True
 | .cons k nm args cond body els _ r=>GS1 (innS k nm.data.toList (txX args) (txC cond) (txS body) (txS els)) (inDS k (ndX args) (ndC cond) (ndS body) (ndS els)) ⟨k,nm,args.bare,cond.bare,body.bare,els.bare,0⟩/\GS r
def ba (l:List UInt8):ByteArray:=⟨l.toArray⟩
set_option maxHeartbeats 800000 in
theorem zjX (t u:Tre)(w:World)(S S':Nat->Prop)(Z Z':Prop)(Av Aa Ap Am Bv Ba Bp Bm:Option Addr)(cv ca cp cm dv da dp dm:Nat)(hS:∀b,S b->b < w.heap.size)(Ly:∀b,S' b->b < w.heap.size)
  (hx:TrR w S Z t Av Aa Ap Am cv ca cp cm) (hy:TrR w S' Z' u Bv Ba Bp Bm dv da dp dm):
  Calls Tryz.prog 18 #[trV t Av Aa Ap Am cv ca cp cm,trV u Bv Ba Bp Bm dv da dp dm] w (zae (eqT false t u) w):=by
 have HC:=hdq (λ(W:World)(h:Fr NoT w W)=>zgH t u W S S' Z Z' Av Aa Ap Am Bv Ba Bp Bm cv ca cp cm dv da dp dm (λb hb=>ltq (hS b hb) h.size) (λb hb=>ltq (Ly b hb) h.size) (hx.keep (h.same λb hb=>⟨hS b hb,id⟩)) (hy.keep (h.same λb hb=>⟨Ly b hb,id⟩)));clear hx hy hS Ly;unfold trV at*;go_enter Tryz.func18,Tryz.ntmps18;go_wp2_with fail;refine(HC _ (((Fr.refl _ _).alloc _).alloc _)).mono ?_;rintro _ y ⟨rfl,hy⟩;have HB:=hdq ((((Fr.refl NoT w).alloc _).alloc _).trans hy);clear hy;go_wp2_with fail;go_ret;exact⟨rfl,HB.out⟩
