/-
  lex.first: the first token of a text that begins with one.
-/
import Derived.Test.YtobegfbdedgmpaaGreatDoorJnLxE
import Derived.Test.YtobegfbdedgmpaaGreatDoorJnBase
import Derived.Deep.RegionWith
import Derived.BigQuiet
import Derived.Laws.Rows
import Derived.Laws.Tables
set_option linter.unusedVariables false
set_option linter.unusedSimpArgs false
set_option maxHeartbeats 1600000
set_option maxRecDepth 100000
namespace Go.Proofs.YtobegfbdedgmpaaGreatDoor
open Go.RowKit Go.Shelf

def Blk (w:World) (g:Nat) (t:TypeId) (cs:Array Value):Prop:=w.heap[g]?=some (.cells cs t (0,0))
theorem Blk.cell {w:World} {g:Nat} {t:TypeId} {cs:Array Value} (h:Blk w g t cs) (i:Nat):w.cell? ⟨g,i,none⟩=cs[i]?:=cell_of_row w g i cs t (0,0) h
theorem Blk.frozen {w:World} {g:Nat} {t:TypeId} {cs:Array Value} (h:Blk w g t cs) (i:Nat):w.frozen? ⟨g,i,none⟩=false:=by
 unfold Blk at h
 simp[World.frozen?,h]
theorem Blk.new (w:World) (t:TypeId) (cs:Array Value):Blk (w.alloc (.cells cs t)) w.heap.size t cs:=heap_alloc_new w _
theorem Blk.lt {w:World} {g:Nat} {t:TypeId} {cs:Array Value} (h:Blk w g t cs):g < w.heap.size:=by
 rcases Nat.lt_or_ge g w.heap.size with hlt|hge
 ·exact hlt
 ·unfold Blk at h;rw[Array.getElem?_eq_none hge]at h;cases h
theorem Blk.set_ {w:World} {g:Nat} {t:TypeId} {cs:Array Value} (h:Blk w g t cs) (i:Nat) (u:Value):Blk (w.setCell ⟨g,i,none⟩ u) g t (cs.setIfInBounds i u):=by
 unfold Blk at h ⊢
 simp[World.setCell,Array.getElem?_modify,h]
theorem Blk.below {w w':World} {B g:Nat} {t:TypeId} {cs:Array Value} (h:Blk w g t cs) (hb:Below B w w') (hg:g < B):Blk w' g t cs:=(hb.block g hg).trans h
def FirstPost (l:List UInt8) (W:World) (e:Ending) (w':World):Prop:=
 ∃tx:ByteArray,tx.data.toList=l.take (firstT l).2.1 ∧e= .returned (.tuple #[.agg #[.int .u8 (firstT l).1,.string tx,.int .i64 0],.int .i64 (firstT l).2.2])∧Below W.heap.size W w'
theorem firstPost_of {l:List UInt8} {W w':World} {tx:ByteArray} {k er:Int} {n:Nat} (h:firstT l=(k,n,er)) (ht:tx.data.toList=l.take n) (hb:Below W.heap.size W w'):
  FirstPost l W (.returned (.tuple #[.agg #[.int .u8 k,.string tx,.int .i64 0],.int .i64 er])) w':=
 ⟨tx,by rw[h];exact ht,by rw[h],hb⟩

def signV:Value:= .agg (signL.map fun s=>Value.string ⟨s.toArray⟩).toArray
theorem signs_any (w:World):Calls Tryz.prog 191 #[] w fun e w'=>e= .returned signV∧Below w.heap.size w w':=by
 go_enter Tryz.func191,Tryz.ntmps191
 go_wp2_with (first|(refine wpList_build rfl 269 _ rfl (by kernel_rfl) ?_)|(refine wpList_store_row rfl 269 _ _ rfl w.heap.size _ rfl rfl 269 _ (heap_alloc_new _ _) (by kernel_rfl) (by kernel_rfl) (by kernel_rfl) ?_))
 exact bodyPost_ret (results_cell_row (p:=0) (ty:=269) rfl _ _ w.heap.size 269 _ (0,0) _ rfl (setRow_heap _ _ _ _ _ _ (heap_alloc_new _ _)) Tryz.underlying269 rfl (by kernel_rfl)) rfl ⟨by kernel_rfl,below_setRow ((Below.refl _ _).alloc (Nat.le_refl _) _) (Nat.le_refl _) _⟩
theorem sign_at (k:Nat) (hk:k < 25):∀w,(Instr.index 269 signV (.int .i64 k)).run Tryz.prog w= .ok (.string ⟨(signL.getD k []).toArray⟩) w:=by
 have h:k=0∨k=1∨k=2∨k=3∨k=4∨k=5∨k=6∨k=7∨k=8∨k=9∨k=10∨k=11∨k=12∨k=13∨k=14∨k=15∨k=16∨k=17∨k=18∨k=19∨k=20∨k=21∨k=22∨k=23∨k=24:=by omega
 rcases h with rfl|rfl|rfl|rfl|rfl|rfl|rfl|rfl|rfl|rfl|rfl|rfl|rfl|rfl|rfl|rfl|rfl|rfl|rfl|rfl|rfl|rfl|rfl|rfl|rfl<;>exact fun _=>by kernel_rfl

structure FirstCalls (s:ByteArray) (d n:Nat):Prop where
 r1:∀W,Calls Tryz.prog 111 #[.string s,.func (.func 188) #[] #[]] W (RunPost n W)
 r2:∀W,Calls Tryz.prog 111 #[.string s,.func (.func 164) #[] #[]] W (RunPost d W)
theorem firstCalls (s:ByteArray) (hs:s.size≤4096):FirstCalls s (runB isDig s.data.toList) (runB isWd s.data.toList):=
 ⟨fun W=>run_any _ _ _ asks_w1 s (by omega) W,fun W=>run_any _ _ _ asks_d s (by omega) W⟩

/-! the walks: printed by wip/gen_lxfirst.py -/
theorem take_data (s:ByteArray) (d:Nat):(s.extract 0 d).data.toList =s.data.toList.take d:=by
 simp
theorem first_long (s:ByteArray) (w:World) (n:Nat) (hc:FirstCalls s 0 n) (hw:16 < n) (hn2:n≤4096) (hf:firstT s.data.toList=(0,0,82)):
  Calls Tryz.prog 113 #[.string s] w (FirstPost s.data.toList w):=by
 have H1:=Lib.hid hc.r1
 have H2:=Lib.hid hc.r2
 have hf':=Lib.hid hf
 clear hc hf
 have hr:=Blk.new w 126 #[.int .u8 0,.string ⟨#[]⟩,.int .i64 0]
 have hb0:Below w.heap.size w (w.alloc (.cells #[.int .u8 0,.string ⟨#[]⟩,.int .i64 0] 126)):=(Below.refl _ _).alloc (Nat.le_refl _) _
 go_enter Tryz.func113,Tryz.ntmps113
 go_wp2_with fail
 refine(H1.out _).mono ?_
 rintro _ w1 ⟨rfl,hb⟩
 have hr:=hr.below hb hr.lt
 have hb0:=hb0.trans (hb.mono hb0.size)
 clear hb
 go_wp2_with fail
 refine(H2.out _).mono ?_
 rintro _ w2 ⟨rfl,hb⟩
 have hr:=hr.below hb hr.lt
 have hb0:=hb0.trans (hb.mono hb0.size)
 clear hb
 have c0:=hr.cell 0
 have c1:=hr.cell 1
 have c2:=hr.cell 2
 have f0:=hr.frozen 0
 have f1:=hr.frozen 1
 have f2:=hr.frozen 2
 simp only[getsL]at c0 c1 c2
 go_wp2_with fail
 have hE:=((hr.set_ 0 (.int .u8 0)).set_ 1 (.string ⟨#[]⟩)).set_ 2 (.int .i64 0)
 simp only[List.setIfInBounds_toArray,List.set_cons_zero,List.set_cons_succ]at hE
 have e0:=hE.cell 0
 have e1:=hE.cell 1
 have e2:=hE.cell 2
 simp only[getsL]at e0 e1 e2
 have hbE:=((hb0.setCell (p:=⟨w.heap.size,0,none⟩) (Nat.le_refl _) (.int .u8 0)).setCell (p:=⟨w.heap.size,1,none⟩) (Nat.le_refl _) (.string ⟨#[]⟩)).setCell (p:=⟨w.heap.size,2,none⟩) (Nat.le_refl _) (.int .i64 0)
 exact bodyPost_ret (v:= .tuple #[.agg #[.int .u8 0,.string ⟨#[]⟩,.int .i64 0],.int .i64 82]) (by simp[results,Tryz.results113,go_sem,e0,e1,e2]) rfl (firstPost_of hf'.out (n:=0) rfl hbE)
theorem first_word (s:ByteArray) (w:World) (n:Nat) (hc:FirstCalls s 0 n) (hw:¬16 < n) (hn0:0 < n) (hns:n≤s.size) (hs:s.size≤4096) (hf:firstT s.data.toList=(1,n,0)):
  Calls Tryz.prog 113 #[.string s] w (FirstPost s.data.toList w):=by
 have H1:=Lib.hid hc.r1
 have H2:=Lib.hid hc.r2
 have hf':=Lib.hid hf
 clear hc hf
 have hr:=Blk.new w 126 #[.int .u8 0,.string ⟨#[]⟩,.int .i64 0]
 have hb0:Below w.heap.size w (w.alloc (.cells #[.int .u8 0,.string ⟨#[]⟩,.int .i64 0] 126)):=(Below.refl _ _).alloc (Nat.le_refl _) _
 go_enter Tryz.func113,Tryz.ntmps113
 go_wp2_with fail
 refine(H1.out _).mono ?_
 rintro _ w1 ⟨rfl,hb⟩
 have hr:=hr.below hb hr.lt
 have hb0:=hb0.trans (hb.mono hb0.size)
 clear hb
 go_wp2_with fail
 refine(H2.out _).mono ?_
 rintro _ w2 ⟨rfl,hb⟩
 have hr:=hr.below hb hr.lt
 have hb0:=hb0.trans (hb.mono hb0.size)
 clear hb
 have c0:=hr.cell 0
 have c1:=hr.cell 1
 have c2:=hr.cell 2
 have f0:=hr.frozen 0
 have f1:=hr.frozen 1
 have f2:=hr.frozen 2
 simp only[getsL]at c0 c1 c2
 go_wp2_with fail
 have hE:=((hr.set_ 0 (.int .u8 1)).set_ 1 (.string (s.extract 0 n))).set_ 2 (.int .i64 0)
 simp only[List.setIfInBounds_toArray,List.set_cons_zero,List.set_cons_succ]at hE
 have e0:=hE.cell 0
 have e1:=hE.cell 1
 have e2:=hE.cell 2
 simp only[getsL]at e0 e1 e2
 have hbE:=((hb0.setCell (p:=⟨w.heap.size,0,none⟩) (Nat.le_refl _) (.int .u8 1)).setCell (p:=⟨w.heap.size,1,none⟩) (Nat.le_refl _) (.string (s.extract 0 n))).setCell (p:=⟨w.heap.size,2,none⟩) (Nat.le_refl _) (.int .i64 0)
 exact bodyPost_ret (v:= .tuple #[.agg #[.int .u8 1,.string (s.extract 0 n),.int .i64 0],.int .i64 0]) (by simp[results,Tryz.results113,go_sem,e0,e1,e2]) rfl (firstPost_of hf'.out (take_data s n) hbE)
theorem find_step {l:List UInt8} {k:Nat} (hk:k < 25) (hp:Lib.hasPrefix l (signL.getD k [])=false) (h:signL.find? (fun s=>s.isPrefixOf l)=(signL.drop k).find? (fun s=>s.isPrefixOf l)):
  signL.find? (fun s=>s.isPrefixOf l)=(signL.drop (k+1)).find? (fun s=>s.isPrefixOf l):=by
 have hlt:k < signL.length:=hk
 rw[h,List.drop_eq_getElem_cons hlt,List.find?_cons]
 have:signL.getD k []=signL[k]:=by simp[hlt]
 rw[this]at hp
 unfold Lib.hasPrefix at hp
 rw[hp]
theorem find_here {l:List UInt8} {k:Nat} (hk:k < 25) (hp:Lib.hasPrefix l (signL.getD k [])=true) (h:signL.find? (fun s=>s.isPrefixOf l)=(signL.drop k).find? (fun s=>s.isPrefixOf l)):
  signL.find? (fun s=>s.isPrefixOf l)=some (signL.getD k []):=by
 have hlt:k < signL.length:=hk
 have:signL.getD k []=signL[k]:=by simp[hlt]
 rw[h,List.drop_eq_getElem_cons hlt,List.find?_cons,this]
 rw[this]at hp
 unfold Lib.hasPrefix at hp
 rw[hp]
theorem first_sign (s:ByteArray) (w:World) (hc:FirstCalls s 0 0) (hf:firstT s.data.toList=match signL.find? (fun x=>x.isPrefixOf s.data.toList)with|some x=>(3,x.length,0)|none=>(0,0,80)):
  Calls Tryz.prog 113 #[.string s] w (FirstPost s.data.toList w):=by
 have H1:=Lib.hid hc.r1
 have H2:=Lib.hid hc.r2
 have hf':=Lib.hid hf
 clear hc hf
 have hr:=Blk.new w 126 #[.int .u8 0,.string ⟨#[]⟩,.int .i64 0]
 have hb0:Below w.heap.size w (w.alloc (.cells #[.int .u8 0,.string ⟨#[]⟩,.int .i64 0] 126)):=(Below.refl _ _).alloc (Nat.le_refl _) _
 go_enter Tryz.func113,Tryz.ntmps113
 go_wp2_with fail
 refine(H1.out _).mono ?_
 rintro _ w1 ⟨rfl,hb⟩
 have hr:=hr.below hb hr.lt
 have hb0:=hb0.trans (hb.mono hb0.size)
 clear hb
 go_wp2_with fail
 refine(H2.out _).mono ?_
 rintro _ w2 ⟨rfl,hb⟩
 have hr:=hr.below hb hr.lt
 have hb0:=hb0.trans (hb.mono hb0.size)
 clear hb
 go_wp2_with fail
 refine(signs_any _).mono ?_
 rintro _ w3 ⟨rfl,hb⟩
 have hr:=hr.below hb hr.lt
 have hb0:=hb0.trans (hb.mono hb0.size)
 clear hb
 go_wp2_with fail
 go_loop [56] (fun i=>∃k:Nat,k≤25∧i= .int .i64 k∧Hid (signL.find? (fun x=>x.isPrefixOf s.data.toList)=(signL.drop k).find? (fun x=>x.isPrefixOf s.data.toList))) (fun i=>25 - (intOf i).toNat)
 case atStart=>exact⟨0,Nat.zero_le _,rfl,rfl⟩
 case round=>
  obtain⟨k,hk,rfl,hfd⟩:=hrel
  by_cases hlt:k < 25
  ·have hidx:=sign_at k hlt
   obtain⟨sg,hsg⟩:∃sg:ByteArray,sg=⟨(signL.getD k []).toArray⟩:=⟨_,rfl⟩
   have hsl:sg.data.toList=signL.getD k []:=by rw[hsg]
   rw[←hsg]at hidx
   have hcall:=Tryz.strings_HasPrefix s sg w3
   rw[hsl]at hcall
   have HSL:=Lib.hid hsl
   clear hsg hsl
   cases hp:Lib.hasPrefix s.data.toList (signL.getD k [])
   ·have HN:=Lib.hid (find_step hlt hp hfd.out)
    rw[hp]at hcall
    have HC:=Lib.hid hcall
    clear hp hcall hfd
    go_wp2_with fail
    refine HC.out.mono ?_
    rintro _ w4 ⟨rfl,rfl⟩
    go_wp2_with fail
    go_round
    case rel=>exact⟨k+1,by omega,by go_num,HN.out⟩
    case measure=>simp[intOf];omega
   ·have HN:=Lib.hid (find_here hlt hp hfd.out)
    have HT:Hid (sg.data.toList=s.data.toList.take (signL.getD k []).length):=by
     show _=_
     rw[HSL.out]
     exact List.prefix_iff_eq_take.1 (List.isPrefixOf_iff_prefix.1 hp)
    rw[hp]at hcall
    have HC:=Lib.hid hcall
    have HF:Hid (firstT s.data.toList=(3,(signL.getD k []).length,0)):=by show _=_;rw[hf'.out,HN.out]
    clear hp hcall hfd
    have c0:=hr.cell 0
    have c1:=hr.cell 1
    have c2:=hr.cell 2
    have f0:=hr.frozen 0
    have f1:=hr.frozen 1
    have f2:=hr.frozen 2
    simp only[getsL]at c0 c1 c2
    go_wp2_with fail
    refine HC.out.mono ?_
    rintro _ w4 ⟨rfl,rfl⟩
    go_wp2_with fail
    have hE:=((hr.set_ 0 (.int .u8 3)).set_ 1 (.string sg)).set_ 2 (.int .i64 0)
    simp only[List.setIfInBounds_toArray,List.set_cons_zero,List.set_cons_succ]at hE
    have e0:=hE.cell 0
    have e1:=hE.cell 1
    have e2:=hE.cell 2
    simp only[getsL]at e0 e1 e2
    have hbE:=((hb0.setCell (p:=⟨w.heap.size,0,none⟩) (Nat.le_refl _) (.int .u8 3)).setCell (p:=⟨w.heap.size,1,none⟩) (Nat.le_refl _) (.string sg)).setCell (p:=⟨w.heap.size,2,none⟩) (Nat.le_refl _) (.int .i64 0)
    exact bodyPost_ret (v:= .tuple #[.agg #[.int .u8 3,.string sg,.int .i64 0],.int .i64 0]) (by simp[results,Tryz.results113,go_sem,e0,e1,e2]) rfl (firstPost_of HF.out HT.out hbE)
  ·have HF:Hid (firstT s.data.toList=(0,0,80)):=by
    show _=_
    have h2:=hfd.out
    rw[show signL.drop k= []from List.drop_eq_nil_of_le (by show 25≤k;omega)]at h2
    rw[hf'.out,h2]
    rfl
   clear hfd
   have c0:=hr.cell 0
   have c1:=hr.cell 1
   have c2:=hr.cell 2
   have f0:=hr.frozen 0
   have f1:=hr.frozen 1
   have f2:=hr.frozen 2
   simp only[getsL]at c0 c1 c2
   go_wp2_with fail
   have hE:=((hr.set_ 0 (.int .u8 0)).set_ 1 (.string ⟨#[]⟩)).set_ 2 (.int .i64 0)
   simp only[List.setIfInBounds_toArray,List.set_cons_zero,List.set_cons_succ]at hE
   have e0:=hE.cell 0
   have e1:=hE.cell 1
   have e2:=hE.cell 2
   simp only[getsL]at e0 e1 e2
   have hbE:=((hb0.setCell (p:=⟨w.heap.size,0,none⟩) (Nat.le_refl _) (.int .u8 0)).setCell (p:=⟨w.heap.size,1,none⟩) (Nat.le_refl _) (.string ⟨#[]⟩)).setCell (p:=⟨w.heap.size,2,none⟩) (Nat.le_refl _) (.int .i64 0)
   exact bodyPost_ret (v:= .tuple #[.agg #[.int .u8 0,.string ⟨#[]⟩,.int .i64 0],.int .i64 80]) (by simp[results,Tryz.results113,go_sem,e0,e1,e2]) rfl (firstPost_of HF.out (n:=0) rfl hbE)
theorem first_num (s:ByteArray) (w:World) (d n:Nat) (v:Int) (hc:FirstCalls s d n) (hd0:0 < d) (hds:d≤s.size) (hs:s.size≤4096) (hnn:n≤4096)
  (HP:∀W,Calls Tryz.prog 189 #[.string (s.extract 0 d),.int .i64 10,.int .i64 64] W fun e w'=>e= .returned (.tuple #[.int .i64 v,.nilIface])∧Below W.heap.size W w')
  (HI:∀W,Below w.heap.size w W→Calls Tryz.prog 190 #[.int .i64 v,.int .i64 10] W fun e w'=>e= .returned (.string (s.extract 0 d))∧Below W.heap.size W w')
  (hlt:decide (d < n)=false) (hf:firstT s.data.toList=(2,d,0)):
  Calls Tryz.prog 113 #[.string s] w (FirstPost s.data.toList w):=by
 have H1:=Lib.hid hc.r1
 have H2:=Lib.hid hc.r2
 have hf':=Lib.hid hf
 have HP':=Lib.hid HP
 have HI':=Lib.hid HI
 clear hc hf HP HI
 have hr:=Blk.new w 126 #[.int .u8 0,.string ⟨#[]⟩,.int .i64 0]
 have hb0:Below w.heap.size w (w.alloc (.cells #[.int .u8 0,.string ⟨#[]⟩,.int .i64 0] 126)):=(Below.refl _ _).alloc (Nat.le_refl _) _
 go_enter Tryz.func113,Tryz.ntmps113
 go_wp2_with fail
 refine(H1.out _).mono ?_
 rintro _ w1 ⟨rfl,hb⟩
 have hr:=hr.below hb hr.lt
 have hb0:=hb0.trans (hb.mono hb0.size)
 clear hb
 go_wp2_with fail
 refine(H2.out _).mono ?_
 rintro _ w2 ⟨rfl,hb⟩
 have hr:=hr.below hb hr.lt
 have hb0:=hb0.trans (hb.mono hb0.size)
 clear hb
 go_wp2_with fail
 refine(HP'.out _).mono ?_
 rintro _ w3 ⟨rfl,hb⟩
 have hr:=hr.below hb hr.lt
 have hb0:=hb0.trans (hb.mono hb0.size)
 clear hb
 have C:=Lib.hid (fun(W:World) (h:Below w3.heap.size w3 W)=>(HI'.out W (hb0.trans (h.mono hb0.size))).mono fun x w' h2=>show x= .returned (.string (s.extract 0 d))∧Below w3.heap.size w3 w' from⟨h2.1,h.trans (h2.2.mono h.size)⟩)
 have hS:Below w3.heap.size w3 w3.drew:=(Below.refl _ _).drew
 have hnon:Nonempty (HeldW (Below w3.heap.size w3)):=⟨⟨_,hS⟩⟩
 have HR:=Lib.hid hr
 have HB0:=Lib.hid hb0
 clear hr hb0
 go_wp2_with fail
 refine wp_region_held (Below w3.heap.size w3) hS (by kernel_rfl) (by kernel_rfl) ?_
 repeat(go_big_quiet_step ((go_at_call 190;exact held_call C.out)))
 refine wpQuiet_nil ?_
 intro _ hw'
 obtain⟨z,rfl⟩:=hw'
 have hr:=HR.out.below z.h HR.out.lt
 have hb0:=HB0.out.trans (z.h.mono HB0.out.size)
 have c0:=hr.cell 0
 have c1:=hr.cell 1
 have c2:=hr.cell 2
 have f0:=hr.frozen 0
 have f1:=hr.frozen 1
 have f2:=hr.frozen 2
 simp only[getsL]at c0 c1 c2
 go_wp2_with fail
 have hE:=((hr.set_ 0 (.int .u8 2)).set_ 1 (.string (s.extract 0 d))).set_ 2 (.int .i64 0)
 simp only[List.setIfInBounds_toArray,List.set_cons_zero,List.set_cons_succ]at hE
 have e0:=hE.cell 0
 have e1:=hE.cell 1
 have e2:=hE.cell 2
 simp only[getsL]at e0 e1 e2
 have hbE:=((hb0.setCell (p:=⟨w.heap.size,0,none⟩) (Nat.le_refl _) (.int .u8 2)).setCell (p:=⟨w.heap.size,1,none⟩) (Nat.le_refl _) (.string (s.extract 0 d))).setCell (p:=⟨w.heap.size,2,none⟩) (Nat.le_refl _) (.int .i64 0)
 exact bodyPost_ret (v:= .tuple #[.agg #[.int .u8 2,.string (s.extract 0 d),.int .i64 0],.int .i64 0]) (by simp[results,Tryz.results113,go_sem,e0,e1,e2]) rfl (firstPost_of hf'.out (take_data s d) hbE)
theorem first_num2 (s:ByteArray) (w:World) (d n:Nat) (v:Int) (hc:FirstCalls s d n) (hd0:0 < d) (hds:d≤s.size) (hs:s.size≤4096) (hnn:n≤4096)
  (HP:∀W,Calls Tryz.prog 189 #[.string (s.extract 0 d),.int .i64 10,.int .i64 64] W fun e w'=>e= .returned (.tuple #[.int .i64 v,.nilIface])∧Below W.heap.size W w')
  (HI:∀W,Below w.heap.size w W→Calls Tryz.prog 190 #[.int .i64 v,.int .i64 10] W fun e w'=>e= .returned (.string (s.extract 0 d))∧Below W.heap.size W w')
  (hlt:decide (d < n)=true) (hf:firstT s.data.toList=(0,0,81)):
  Calls Tryz.prog 113 #[.string s] w (FirstPost s.data.toList w):=by
 have H1:=Lib.hid hc.r1
 have H2:=Lib.hid hc.r2
 have hf':=Lib.hid hf
 have HP':=Lib.hid HP
 have HI':=Lib.hid HI
 clear hc hf HP HI
 have hr:=Blk.new w 126 #[.int .u8 0,.string ⟨#[]⟩,.int .i64 0]
 have hb0:Below w.heap.size w (w.alloc (.cells #[.int .u8 0,.string ⟨#[]⟩,.int .i64 0] 126)):=(Below.refl _ _).alloc (Nat.le_refl _) _
 go_enter Tryz.func113,Tryz.ntmps113
 go_wp2_with fail
 refine(H1.out _).mono ?_
 rintro _ w1 ⟨rfl,hb⟩
 have hr:=hr.below hb hr.lt
 have hb0:=hb0.trans (hb.mono hb0.size)
 clear hb
 go_wp2_with fail
 refine(H2.out _).mono ?_
 rintro _ w2 ⟨rfl,hb⟩
 have hr:=hr.below hb hr.lt
 have hb0:=hb0.trans (hb.mono hb0.size)
 clear hb
 go_wp2_with fail
 refine(HP'.out _).mono ?_
 rintro _ w3 ⟨rfl,hb⟩
 have hr:=hr.below hb hr.lt
 have hb0:=hb0.trans (hb.mono hb0.size)
 clear hb
 have C:=Lib.hid (fun(W:World) (h:Below w3.heap.size w3 W)=>(HI'.out W (hb0.trans (h.mono hb0.size))).mono fun x w' h2=>show x= .returned (.string (s.extract 0 d))∧Below w3.heap.size w3 w' from⟨h2.1,h.trans (h2.2.mono h.size)⟩)
 have hS:Below w3.heap.size w3 w3.drew:=(Below.refl _ _).drew
 have hnon:Nonempty (HeldW (Below w3.heap.size w3)):=⟨⟨_,hS⟩⟩
 have HR:=Lib.hid hr
 have HB0:=Lib.hid hb0
 clear hr hb0
 go_wp2_with fail
 refine wp_region_held (Below w3.heap.size w3) hS (by kernel_rfl) (by kernel_rfl) ?_
 repeat(go_big_quiet_step ((go_at_call 190;exact held_call C.out)))
 refine wpQuiet_nil ?_
 intro _ hw'
 obtain⟨z,rfl⟩:=hw'
 have hr:=HR.out.below z.h HR.out.lt
 have hb0:=HB0.out.trans (z.h.mono HB0.out.size)
 have c0:=hr.cell 0
 have c1:=hr.cell 1
 have c2:=hr.cell 2
 have f0:=hr.frozen 0
 have f1:=hr.frozen 1
 have f2:=hr.frozen 2
 simp only[getsL]at c0 c1 c2
 go_wp2_with fail
 have hE:=((hr.set_ 0 (.int .u8 0)).set_ 1 (.string ⟨#[]⟩)).set_ 2 (.int .i64 0)
 simp only[List.setIfInBounds_toArray,List.set_cons_zero,List.set_cons_succ]at hE
 have e0:=hE.cell 0
 have e1:=hE.cell 1
 have e2:=hE.cell 2
 simp only[getsL]at e0 e1 e2
 have hbE:=((hb0.setCell (p:=⟨w.heap.size,0,none⟩) (Nat.le_refl _) (.int .u8 0)).setCell (p:=⟨w.heap.size,1,none⟩) (Nat.le_refl _) (.string ⟨#[]⟩)).setCell (p:=⟨w.heap.size,2,none⟩) (Nat.le_refl _) (.int .i64 0)
 exact bodyPost_ret (v:= .tuple #[.agg #[.int .u8 0,.string ⟨#[]⟩,.int .i64 0],.int .i64 81]) (by simp[results,Tryz.results113,go_sem,e0,e1,e2]) rfl (firstPost_of hf'.out (n:=0) rfl hbE)
theorem first_num3 (s:ByteArray) (w:World) (d n:Nat) (v:Int) (t:ByteArray) (ht:(t.toList==(s.extract 0 d).toList)=false) (hc:FirstCalls s d n) (hd0:0 < d) (hds:d≤s.size) (hs:s.size≤4096) (hnn:n≤4096)
  (HP:∀W,Calls Tryz.prog 189 #[.string (s.extract 0 d),.int .i64 10,.int .i64 64] W fun e w'=>e= .returned (.tuple #[.int .i64 v,.nilIface])∧Below W.heap.size W w')
  (HI:∀W,Below w.heap.size w W→Calls Tryz.prog 190 #[.int .i64 v,.int .i64 10] W fun e w'=>e= .returned (.string t)∧Below W.heap.size W w')
  (hf:firstT s.data.toList=(0,0,81)):
  Calls Tryz.prog 113 #[.string s] w (FirstPost s.data.toList w):=by
 have H1:=Lib.hid hc.r1
 have H2:=Lib.hid hc.r2
 have hf':=Lib.hid hf
 have HP':=Lib.hid HP
 have HI':=Lib.hid HI
 clear hc hf HP HI
 have hr:=Blk.new w 126 #[.int .u8 0,.string ⟨#[]⟩,.int .i64 0]
 have hb0:Below w.heap.size w (w.alloc (.cells #[.int .u8 0,.string ⟨#[]⟩,.int .i64 0] 126)):=(Below.refl _ _).alloc (Nat.le_refl _) _
 go_enter Tryz.func113,Tryz.ntmps113
 go_wp2_with fail
 refine(H1.out _).mono ?_
 rintro _ w1 ⟨rfl,hb⟩
 have hr:=hr.below hb hr.lt
 have hb0:=hb0.trans (hb.mono hb0.size)
 clear hb
 go_wp2_with fail
 refine(H2.out _).mono ?_
 rintro _ w2 ⟨rfl,hb⟩
 have hr:=hr.below hb hr.lt
 have hb0:=hb0.trans (hb.mono hb0.size)
 clear hb
 go_wp2_with fail
 refine(HP'.out _).mono ?_
 rintro _ w3 ⟨rfl,hb⟩
 have hr:=hr.below hb hr.lt
 have hb0:=hb0.trans (hb.mono hb0.size)
 clear hb
 have C:=Lib.hid (fun(W:World) (h:Below w3.heap.size w3 W)=>(HI'.out W (hb0.trans (h.mono hb0.size))).mono fun x w' h2=>show x= .returned (.string t)∧Below w3.heap.size w3 w' from⟨h2.1,h.trans (h2.2.mono h.size)⟩)
 have hS:Below w3.heap.size w3 w3.drew:=(Below.refl _ _).drew
 have hnon:Nonempty (HeldW (Below w3.heap.size w3)):=⟨⟨_,hS⟩⟩
 have HR:=Lib.hid hr
 have HB0:=Lib.hid hb0
 clear hr hb0
 go_wp2_with fail
 refine wp_region_held (Below w3.heap.size w3) hS (by kernel_rfl) (by kernel_rfl) ?_
 repeat(go_big_quiet_step ((go_at_call 190;exact held_call C.out)))
 refine wpQuiet_nil ?_
 intro _ hw'
 obtain⟨z,rfl⟩:=hw'
 have hr:=HR.out.below z.h HR.out.lt
 have hb0:=HB0.out.trans (z.h.mono HB0.out.size)
 have c0:=hr.cell 0
 have c1:=hr.cell 1
 have c2:=hr.cell 2
 have f0:=hr.frozen 0
 have f1:=hr.frozen 1
 have f2:=hr.frozen 2
 simp only[getsL]at c0 c1 c2
 go_wp2_with fail
 have hE:=((hr.set_ 0 (.int .u8 0)).set_ 1 (.string ⟨#[]⟩)).set_ 2 (.int .i64 0)
 simp only[List.setIfInBounds_toArray,List.set_cons_zero,List.set_cons_succ]at hE
 have e0:=hE.cell 0
 have e1:=hE.cell 1
 have e2:=hE.cell 2
 simp only[getsL]at e0 e1 e2
 have hbE:=((hb0.setCell (p:=⟨w.heap.size,0,none⟩) (Nat.le_refl _) (.int .u8 0)).setCell (p:=⟨w.heap.size,1,none⟩) (Nat.le_refl _) (.string ⟨#[]⟩)).setCell (p:=⟨w.heap.size,2,none⟩) (Nat.le_refl _) (.int .i64 0)
 exact bodyPost_ret (v:= .tuple #[.agg #[.int .u8 0,.string ⟨#[]⟩,.int .i64 0],.int .i64 81]) (by simp[results,Tryz.results113,go_sem,e0,e1,e2]) rfl (firstPost_of hf'.out (n:=0) rfl hbE)
theorem first_num4 (s:ByteArray) (w:World) (d n:Nat) (hc:FirstCalls s d n) (hd0:0 < d) (hds:d≤s.size) (hs:s.size≤4096) (hnn:n≤4096) (hf:firstT s.data.toList=(0,0,81))
  (HP:∀W,Below w.heap.size w W→Calls Tryz.prog 189 #[.string (s.extract 0 d),.int .i64 10,.int .i64 64] W fun e w'=>∃m t p,e= .returned (.tuple #[.int .i64 m,.iface t p])∧Below W.heap.size W w'):
  Calls Tryz.prog 113 #[.string s] w (FirstPost s.data.toList w):=by
 have H1:=Lib.hid hc.r1
 have H2:=Lib.hid hc.r2
 have hf':=Lib.hid hf
 have HP':=Lib.hid HP
 clear hc hf HP
 have hr:=Blk.new w 126 #[.int .u8 0,.string ⟨#[]⟩,.int .i64 0]
 have hb0:Below w.heap.size w (w.alloc (.cells #[.int .u8 0,.string ⟨#[]⟩,.int .i64 0] 126)):=(Below.refl _ _).alloc (Nat.le_refl _) _
 go_enter Tryz.func113,Tryz.ntmps113
 go_wp2_with fail
 refine(H1.out _).mono ?_
 rintro _ w1 ⟨rfl,hb⟩
 have hr:=hr.below hb hr.lt
 have hb0:=hb0.trans (hb.mono hb0.size)
 clear hb
 go_wp2_with fail
 refine(H2.out _).mono ?_
 rintro _ w2 ⟨rfl,hb⟩
 have hr:=hr.below hb hr.lt
 have hb0:=hb0.trans (hb.mono hb0.size)
 clear hb
 go_wp2_with fail
 refine(HP'.out _ hb0).mono ?_
 rintro _ w3 ⟨m,t,p,rfl,hb⟩
 have hr:=hr.below hb hr.lt
 have hb0:=hb0.trans (hb.mono hb0.size)
 clear hb
 go_wp2_with fail
 go_quiet (fail)
 have hr5:∀k,Blk (w3.drewN k) w.heap.size 126 #[.int .u8 0,.string ⟨#[]⟩,.int .i64 0]∧Below w.heap.size w (w3.drewN k):=fun k=>⟨hr,below_drewN hb0 k⟩
 generalize hw4:w3.drewN _=w4
 have h5:Blk w4 w.heap.size 126 #[.int .u8 0,.string ⟨#[]⟩,.int .i64 0]∧Below w.heap.size w w4:=by rw[←hw4];exact hr5 _
 clear hw4 hr5 hr hb0
 obtain⟨hr,hb0⟩:=h5
 have c0:=hr.cell 0
 have c1:=hr.cell 1
 have c2:=hr.cell 2
 have f0:=hr.frozen 0
 have f1:=hr.frozen 1
 have f2:=hr.frozen 2
 simp only[getsL]at c0 c1 c2
 go_wp2_with fail
 have hE:=((hr.set_ 0 (.int .u8 0)).set_ 1 (.string ⟨#[]⟩)).set_ 2 (.int .i64 0)
 simp only[List.setIfInBounds_toArray,List.set_cons_zero,List.set_cons_succ]at hE
 have e0:=hE.cell 0
 have e1:=hE.cell 1
 have e2:=hE.cell 2
 simp only[getsL]at e0 e1 e2
 have hbE:=((hb0.setCell (p:=⟨w.heap.size,0,none⟩) (Nat.le_refl _) (.int .u8 0)).setCell (p:=⟨w.heap.size,1,none⟩) (Nat.le_refl _) (.string ⟨#[]⟩)).setCell (p:=⟨w.heap.size,2,none⟩) (Nat.le_refl _) (.int .i64 0)
 exact bodyPost_ret (v:= .tuple #[.agg #[.int .u8 0,.string ⟨#[]⟩,.int .i64 0],.int .i64 81]) (by simp[results,Tryz.results113,go_sem,e0,e1,e2]) rfl (firstPost_of hf'.out (n:=0) rfl hbE)
end Go.Proofs.YtobegfbdedgmpaaGreatDoor
