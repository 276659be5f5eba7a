/-
  check.Tree, of a tree of sets and whiles without arrays and procedures. 
-/
import Derived.Test.YtobegfbdedgmpaaGreatDoorJgCl
import Derived.Test.YtobegfbdedgmpaaGreatDoorJnFg6
set_option linter.unusedVariables false
set_option linter.unusedSimpArgs false
set_option maxHeartbeats 1600000
namespace Go.Proofs.YtobegfbdedgmpaaGreatDoor
open Go.RowKit Go.Shelf

theorem idxAr0 (A:Option Addr) (c:Nat) (g:Value) (w:World):Calls Tryz.prog 223 #[.slice A 0 c,g] w fun e w'=>e= .returned (.int .i64 (-1))∧w'=w:=by
 go_enter Tryz.func223,Tryz.ntmps223
 go_wp2_with fail
 go_loopw [8] (fun i wr=>i= .int .i64 0∧wr=w) (fun _ _=>0)
 case atStart=>exact⟨rfl,rfl⟩
 case round=>
  obtain⟨rfl,rfl⟩:=hrel
  go_wp2_with fail
  go_ret
  exact⟨rfl,rfl⟩
theorem conAr0 (A:Option Addr) (c:Nat) (g:Value) (w:World):Calls Tryz.prog 176 #[.slice A 0 c,g] w fun e w'=>e= .returned (.bool false)∧w'=w:=by
 go_enter Tryz.func176,Tryz.ntmps176
 go_wp2_with fail
 refine(idxAr0 A c g w).mono ?_
 rintro _ _ ⟨rfl,rfl⟩
 go_wp2_with fail
 go_ret
 exact⟨rfl,rfl⟩
theorem allAr0 (A:Option Addr) (c:Nat) (g:Nat) (cap:Array Value) (w:World):Calls Tryz.prog 92 #[.slice A 0 c,.func (.func g) #[] cap] w (EqPost true w):=by
 have hmf:= @makeF Tryz.prog
 have HC:=Lib.hid (conAr0 A c (.func (.func 177) #[] #[.pointer (some ⟨w.heap.size,0,none⟩)]) (w.alloc (.cells #[.func (.func g) #[] cap] 181)))
 go_enter Tryz.func92,Tryz.ntmps92
 go_wp2_with fail
 refine HC.out.mono ?_
 rintro _ _ ⟨rfl,rfl⟩
 go_wp2_with fail
 go_ret
 exact⟨rfl,(Fr.refl _ _).alloc _⟩
theorem idxPr0 (A:Option Addr) (c:Nat) (g:Value) (w:World):Calls Tryz.prog 203 #[.slice A 0 c,g] w fun e w'=>e= .returned (.int .i64 (-1))∧w'=w:=by
 go_enter Tryz.func203,Tryz.ntmps203
 go_wp2_with fail
 go_loopw [8] (fun i wr=>i= .int .i64 0∧wr=w) (fun _ _=>0)
 case atStart=>exact⟨rfl,rfl⟩
 case round=>
  obtain⟨rfl,rfl⟩:=hrel
  go_wp2_with fail
  go_ret
  exact⟨rfl,rfl⟩
theorem conPr0' (A:Option Addr) (c:Nat) (g:Value) (w:World):Calls Tryz.prog 128 #[.slice A 0 c,g] w fun e w'=>e= .returned (.bool false)∧w'=w:=by
 go_enter Tryz.func128,Tryz.ntmps128
 go_wp2_with fail
 refine(idxPr0 A c g w).mono ?_
 rintro _ _ ⟨rfl,rfl⟩
 go_wp2_with fail
 go_ret
 exact⟨rfl,rfl⟩
theorem allPr0 (A:Option Addr) (c:Nat) (g:Nat) (cap:Array Value) (w:World):Calls Tryz.prog 94 #[.slice A 0 c,.func (.func g) #[] cap] w (EqPost true w):=by
 have hmf:= @makeF Tryz.prog
 have HC:=Lib.hid (conPr0' A c (.func (.func 178) #[] #[.pointer (some ⟨w.heap.size,0,none⟩)]) (w.alloc (.cells #[.func (.func g) #[] cap] 183)))
 go_enter Tryz.func94,Tryz.ntmps94
 go_wp2_with fail
 refine HC.out.mono ?_
 rintro _ _ ⟨rfl,rfl⟩
 go_wp2_with fail
 go_ret
 exact⟨rfl,(Fr.refl _ _).alloc _⟩
def kdS:Sts→Prop
 | .nil =>True
 | .cons k _ _ _ body els _ r=>(k=2∨k=8)∧kdS body∧kdS els∧kdS r
theorem stmt_one0 (k:Int) (nm:ByteArray) (at_:Int) (A:Option Addr) (l c:Nat) (B:Option Addr) (m d:Nat) (D:Option Addr) (u e:Nat) (E:Option Addr) (v f:Nat) (r1 r2 r3 r4:Bool) (w:World) (hk:k=2∨k=8) (he:SpEnv w) (hs:nm.size≤9223372036854775807)
  (hl:l≤9223372036854775807) (hm:m≤9223372036854775807) (hu:u≤9223372036854775807) (hv:v≤9223372036854775807)
  (h1:AllC 172 173 w A l c r1) (h2:AllC 174 175 w B m d r2) (h3:AllC 90 91 w D u e r3) (h4:AllC 90 91 w E v f r4):
  Calls Tryz.prog 91 #[.agg #[.int .u8 k,.string nm,.slice A l c,.slice B m d,.slice D u e,.slice E v f,.int .i64 at_]] w (EqPost (decide (1≤k)&&decide (k≤9)&&nmdB (tabA stShp k).2.2.2 nm&&(decide ((tabA stShp k).1 < 0) || (l:Int)==(tabA stShp k).1)&&((m:Int)==(tabA stShp k).2.2.1)&&(k==7 || k==8 || u==0)&&(k==7 || v==0)&&r1&&r2&&r3&&r4) w):=by
 have k1:1≤k:=by omega
 have k2:k≤9:=by omega
 obtain⟨a,o,c2,b,hsh,hidx⟩:=stmts_at k k1 k2
 have hta:tabA stShp k=(a,o,c2,b):=by unfold tabA;rw[hsh];rfl
 have x1:decide (1≤k)=true:=by simpa using k1
 have x2:decide (k≤9)=true:=by simpa using k2
 rw[hta,x1,x2]
 simp only[Bool.true_and]
 rcases hk with rfl|rfl
 ·have:stShp[(2:Int).toNat]?=some (1,0,0,true):=rfl
  rw[this]at hsh
  simp only[Option.some.injEq,Prod.mk.injEq]at hsh
  have hn:decide (a < 0)=false:=by rw[←hsh.1];rfl
  have:=stmt_one_3 2 nm at_ A l c B m d D u e E v f r1 r2 r3 r4 w he hs hl hm hu hv h1 h2 h3 h4 k1 k2 (by decide) (by decide) a o c2 b hidx hn
  rw[hn,show((2:Int)==7)=false from rfl,show((2:Int)==8)=false from rfl]
  simpa only[Bool.false_or,Bool.true_or,Bool.and_true]using this
 ·have:stShp[(8:Int).toNat]?=some (0,0,1,false):=rfl
  rw[this]at hsh
  simp only[Option.some.injEq,Prod.mk.injEq]at hsh
  have hn:decide (a < 0)=false:=by rw[←hsh.1];rfl
  have:=stmt_one_2 8 nm at_ A l c B m d D u e E v f r1 r2 r3 r4 w he hs hl hm hu hv h1 h2 h3 h4 k1 k2 rfl a o c2 b hidx hn
  rw[hn,show((8:Int)==7)=false from rfl,show((8:Int)==8)=true from rfl]
  simpa only[Bool.false_or,Bool.true_or,Bool.and_true]using this
theorem stmt_asks0:∀(xs:Sts) (w:World) (S:Nat→Prop) (Z:Prop),SpEnv w→(∀b,S b→b < w.heap.size)→szS xs→kdS xs→AskSt 91 #[] w S Z okT xs
 | .nil,_,_,_,_,_,_,_=>fun i _ _ _ _ _ _ _ _ hd=>by cases i<;>simp[Sts.drop]at hd
 | .cons k nm args cond body els at_ rest,w,S,Z,he,hS,hsz,hkd=>fun i _ _ _ _ _ _ _ _ hd r1 W A2 q2 A3 q3 A4 q4 A5 q5 hw s2 s3 s4 s5=>by
  cases i with
  |zero=>
   simp only[Sts.drop]at hd
   injection hd with e1 e2 e3 e4 e5 e6 e7 e8
   subst e1 e2 e3 e4 e5 e6 e7 e8
   rw[Array.append_empty]
   have hS2:∀W2,Fr NoT W W2→∀b,S b→b < W2.heap.size:=fun W2 h2 b hb=>Nat.lt_of_lt_of_le (hS b hb) (hw.trans h2).size
   have hS3:∀b,S b→b < W.heap.size:=fun b hb=>Nat.lt_of_lt_of_le (hS b hb) hw.size
   refine stmt_one0 k nm at_ A2 args.len q2 A3 cond.len q3 A4 body.len q4 A5 els.len q5 (okX args) (okC cond) (okS body) (okS els) W hkd.1 (he.keep hw.plain) hsz.1 (Nat.le_trans s2.1 s2.2.1.1) (Nat.le_trans s3.1 s3.2.1.1) (Nat.le_trans s4.1 s4.2.1.1) (Nat.le_trans s5.1 s5.2.1.1) (fun W2 h2=>?_) (fun W2 h2=>?_) (fun W2 h2=>?_) (fun W2 h2=>?_)
   ·exact exprs_any args A2 q2 W2 S Z (he.keep (hw.trans h2).plain) (hS2 W2 h2) hsz.2.1 (s2.imp fun _ _ hx=>ExR.keep (h2.same fun b hb=>⟨hS3 b hb,id⟩) hx)
   ·exact conds_any cond A3 q3 W2 S Z (he.keep (hw.trans h2).plain) (hS2 W2 h2) hsz.2.2.1 (s3.imp fun _ _ hx=>CdR.keep (h2.same fun b hb=>⟨hS3 b hb,id⟩) hx)
   ·have:=allSt_any okT body A4 q4 91 #[] W2 S Z (hS2 W2 h2) (s4.imp fun _ _ hx=>StR.keep (h2.same fun b hb=>⟨hS3 b hb,id⟩) hx) (enters_of Tryz.func91 (by kernel_rfl) rfl) (stmt_asks0 body W2 S Z (he.keep (hw.trans h2).plain) (hS2 W2 h2) hsz.2.2.2.1 hkd.2.1)
    rw[okS_all]at this
    exact this
   ·have:=allSt_any okT els A5 q5 91 #[] W2 S Z (hS2 W2 h2) (s5.imp fun _ _ hx=>StR.keep (h2.same fun b hb=>⟨hS3 b hb,id⟩) hx) (enters_of Tryz.func91 (by kernel_rfl) rfl) (stmt_asks0 els W2 S Z (he.keep (hw.trans h2).plain) (hS2 W2 h2) hsz.2.2.2.2.1 hkd.2.2.1)
    rw[okS_all]at this
    exact this
  |succ i=>
   simp only[Sts.drop]at hd
   exact stmt_asks0 rest w S Z he hS hsz.2.2.2.2.2 hkd.2.2.2 i _ _ _ _ _ _ _ _ hd r1 W A2 q2 A3 q3 A4 q4 A5 q5 hw s2 s3 s4 s5
theorem conPr0:ConPr []:=fun P b N C s0 A c w S Z h0 h1 h2 h3 h4 h5 h6=>(conPr0' A c _ w).mono fun e w' ⟨k1,k2⟩=>by
 subst k2
 exact⟨k1,h0,Fr.refl _ _⟩
theorem ctree0 (t:Tre) (w:World) (S:Nat→Prop) (Z:Prop) (Av Aa Ap Am:Option Addr) (cv ca cp cm:Nat) (he:SpEnv w) (hS:∀b,S b→b < w.heap.size) (hsz:SzT t) (hx:TrR w S Z t Av Aa Ap Am cv ca cp cm) (ha:t.arrays= []) (hp:t.procs= []) (hk:kdS t.main) (ht:okTr t=true) (hf:fewT t=true):
  Calls Tryz.prog 66 #[trV t Av Aa Ap Am cv ca cp cm] w (AtE (treeC t) w):=by
 refine ctree_few t w S Z Av Aa Ap Am cv ca cp cm hS hsz hx ht hf (fun W hW=>?_) (by rw[hp];exact conPr0)
 have keep:∀W',Fr NoT W W'→TrR W' S Z t Av Aa Ap Am cv ca cp cm:=fun W' h=>hx.keep ((hW.trans h).same fun b hb=>⟨hS b hb,id⟩)
 have hSW:∀W',Fr NoT W W'→∀b,S b→b < W'.heap.size:=fun W' h b hb=>Nat.lt_of_lt_of_le (hS b hb) (hW.trans h).size
 have h:=pcheck_of t W S Z Av Aa Ap Am cv ca cp cm (he.keep hW.plain) (hSW W (Fr.refl _ _)) hsz (keep W (Fr.refl _ _))
  (fun W' h=>by
   have:=allSt_any okT t.main Am cm 91 #[] W' S Z (hSW W' h) (keep W' h).main (enters_of Tryz.func91 (by kernel_rfl) rfl) (stmt_asks0 t.main W' S Z (he.keep (hW.trans h).plain) (hSW W' h) hsz.main hk)
   rw[okS_all]at this
   exact this)
  (fun W' h=>by rw[ha];exact allAr0 Aa ca _ _ W')
  fun W' h hb=>by rw[hp];exact allPr0 Ap cp _ _ W'
 rw[ht]at h
 exact h

def slS:Sts→Prop
 | .nil =>True
 | .cons k nm args cond body els _ r=>(k=2∨k=8∧∃k0 a0 o0 t0 r0,cond= .cons k0 a0 o0 t0 r0∧szQ a0∧1≤k0∧k0≤8)∧nm.size≤9223372036854775807∧szQ args∧slS body∧slS els∧slS r
theorem blkI0 (C:FgC):∀xs:Sts,slS xs→BlkI C xs
 | .nil,_,i,_,_,_,_,_,_,_,_,h=>by cases i<;>simp[Sts.drop]at h
 | .cons k nm args cond body els at_ r,hw,0,k0,n0,a0,c0,b0,e0,t0,r0,h=>by
  simp only[Sts.drop,Sts.cons.injEq]at h
  obtain⟨rfl,rfl,rfl,rfl,rfl,rfl,rfl,_⟩:=h
  obtain⟨h1,h3,h4,h7,h8,_⟩:=hw
  rcases h1 with rfl|⟨rfl,k1,a1,o1,t1,r1,rfl,h5,h6,h9⟩
  ·exact stm_2 C _ _ _ _ _ _ h3 h4
  ·exact stm_8 C _ _ _ _ _ _ k1 a1 o1 t1 r1 rfl (cond_leaf C k1 a1 o1 t1 h5 h6 h9) (fblk_any C _ (blkI0 C _ h7))
 | .cons k nm args cond body els at_ r,hw,i+1,k0,n0,a0,c0,b0,e0,t0,r0,h=>by
  simp only[Sts.drop]at h
  exact blkI0 C r hw.2.2.2.2.2 i k0 n0 a0 c0 b0 e0 t0 r0 h
theorem block0 (C:FgC) (xs:Sts) (h:slS xs):FBlk C xs:=fblk_any C xs (blkI0 C xs h)
theorem stc0 {K:InK} (hk:K.Ok) (xs:Sts) (hl:LvB K.procs (fun _=>False) xs) (hz:szS xs):StC K (inlF K.procs 0) xs:=
 stc_of hk (low:=fun _=>False) (fun ys hl hz i a1 a2 a3 a4 a5 a6 ar hd=>by
  obtain⟨x,_,_,h⟩:=(lvB_at i hl hz hd).1 rfl
  exact h.elim) xs hl hz
theorem inl0 (t:Tre) (w:World) (S:Nat→Prop) (Z:Prop) (Av Aa Ap Am:Option Addr) (cv ca cp cm:Nat) (he:SpEnv w) (htab:Lib.TabIs Tryz.prog w "internal/strconv.uint64pow10" .u64 Lib.pow10Tab) (hS:∀b,S b→b < w.heap.size) (hsz:SzT t) (hx:TrR w S Z t Av Aa Ap Am cv ca cp cm)
  (ha:t.arrays= []) (hk:kdS t.main) (ht:okTr t=true) (hf:fewT t=true) (hp:t.procs= []) (hv:t.vars.length≤12) (hl:LvB (fun _=>none) (fun _=>False) t.main):
  Calls Tryz.prog 22 #[trV t Av Aa Ap Am cv ca cp cm] w (InlP (inlT t) w):=
 inl_of t w S Z Av Aa Ap Am cv ca cp cm htab hS hsz hx (fun w1 hf1=>ctree0 t w1 S Z Av Aa Ap Am cv ca cp cm (he.keep hf1.plain) (fun b hb=>Nat.lt_of_lt_of_le (hS b hb) hf1.size) hsz (hx.keep (hf1.same fun b hb=>⟨hS b hb,id⟩)) ha hp hk ht hf)
  fun _=>by
   rw[hp]
   exact⟨hv,fun y x h=>(by cases h),fun K hk e=>stc0 hk t.main (by rw[e];exact hl) hsz.main⟩
end Go.Proofs.YtobegfbdedgmpaaGreatDoor
