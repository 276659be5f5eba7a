/-
  lex.first: the first token of a text that begins with one.
-/
import Derived.Test.YtfomomaomggpbaaGreatDoorJgLxE
import Derived.Deep.RegionWith
set_option linter.unusedVariables false
set_option linter.unusedSimpArgs false
set_option maxHeartbeats 3200000
set_option maxRecDepth 100000
namespace Go.Proofs.YtfomomaomggpbaaGreatDoor
open Go.RowKit Go.Shelf

def Blk (w:World) (g:Nat) (t:TypeId) (cs:Array Value):Prop:=w.heap[g]?=some (.cells cs t (0,0))
theorem Blk.cell {w:World} {g:Nat} {t:TypeId} {cs:Array Value} (h:Blk w g t cs) (i:Nat):w.cell? ⟨g,i,none⟩=cs[i]?:=cell_of_row w g i cs t (0,0) h
theorem Blk.frozen {w:World} {g:Nat} {t:TypeId} {cs:Array Value} (h:Blk w g t cs) (i:Nat):w.frozen? ⟨g,i,none⟩=false:=by
 unfold Blk at h
 simp[World.frozen?,h]
theorem Blk.new (w:World) (t:TypeId) (cs:Array Value):Blk (w.alloc (.cells cs t)) w.heap.size t cs:=heap_alloc_new w _
theorem Blk.lt {w:World} {g:Nat} {t:TypeId} {cs:Array Value} (h:Blk w g t cs):g < w.heap.size:=by
 rcases Nat.lt_or_ge g w.heap.size with hlt|hge
 ·exact hlt
 ·unfold Blk at h;rw[Array.getElem?_eq_none hge]at h;cases h
theorem Blk.set_ {w:World} {g:Nat} {t:TypeId} {cs:Array Value} (h:Blk w g t cs) (i:Nat) (u:Value):Blk (w.setCell ⟨g,i,none⟩ u) g t (cs.setIfInBounds i u):=by
 unfold Blk at h ⊢
 simp[World.setCell,Array.getElem?_modify,h]
theorem Blk.below {w w':World} {B g:Nat} {t:TypeId} {cs:Array Value} (h:Blk w g t cs) (hb:Below B w w') (hg:g < B):Blk w' g t cs:=(hb.block g hg).trans h
def FirstPost (l:List UInt8) (W:World) (e:Ending) (w':World):Prop:=
 ∃tx:ByteArray,tx.data.toList=l.take (firstT l).2.1 ∧e= .returned (.tuple #[.agg #[.int .u8 (firstT l).1,.string tx,.int .i64 0],.int .i64 (firstT l).2.2])∧Below W.heap.size W w'
theorem firstPost_of {l:List UInt8} {W w':World} {tx:ByteArray} {k er:Int} {n:Nat} (h:firstT l=(k,n,er)) (ht:tx.data.toList=l.take n) (hb:Below W.heap.size W w'):
  FirstPost l W (.returned (.tuple #[.agg #[.int .u8 k,.string tx,.int .i64 0],.int .i64 er])) w':=
 ⟨tx,by rw[h];exact ht,by rw[h],hb⟩

def signV:Value:= .agg (signL.map fun s=>Value.string ⟨s.toArray⟩).toArray
theorem signs_any (w:World):Calls Tryz.prog 198 #[] w fun e w'=>e= .returned signV∧Below w.heap.size w w':=by
 go_enter Tryz.func198,Tryz.ntmps198
 go_wp2_with (first|(refine wpList_build rfl 292 _ rfl (by kernel_rfl) ?_)|(refine wpList_store_row rfl 292 _ _ rfl w.heap.size _ rfl rfl 292 _ (heap_alloc_new _ _) (by kernel_rfl) (by kernel_rfl) (by kernel_rfl) ?_))
 exact bodyPost_ret (results_cell_row (p:=0) (ty:=292) rfl _ _ w.heap.size 292 _ (0,0) _ rfl (setRow_heap _ _ _ _ _ _ (heap_alloc_new _ _)) Tryz.underlying292 rfl (by kernel_rfl)) rfl ⟨by kernel_rfl,below_setRow ((Below.refl _ _).alloc (lrq _) _) (lrq _) _⟩
theorem sign_at (k:Nat) (hk:k < 25):∀w,(Instr.index 292 signV (.int .i64 k)).run Tryz.prog w= .ok (.string ⟨(signL.getD k []).toArray⟩) w:=by
 have h:k=0∨k=1∨k=2∨k=3∨k=4∨k=5∨k=6∨k=7∨k=8∨k=9∨k=10∨k=11∨k=12∨k=13∨k=14∨k=15∨k=16∨k=17∨k=18∨k=19∨k=20∨k=21∨k=22∨k=23∨k=24:=by omega
 rcases h with rfl|rfl|rfl|rfl|rfl|rfl|rfl|rfl|rfl|rfl|rfl|rfl|rfl|rfl|rfl|rfl|rfl|rfl|rfl|rfl|rfl|rfl|rfl|rfl|rfl<;>exact fun _=>by kernel_rfl

structure FirstCalls (s:ByteArray) (d n:Nat):Prop where
 r1:∀W,Calls Tryz.prog 126 #[.string s,.func (.func 195) #[] #[]] W (RunPost n W)
 r2:∀W,Calls Tryz.prog 126 #[.string s,.func (.func 160) #[] #[]] W (RunPost d W)
theorem firstCalls (s:ByteArray) (hs:s.size≤4096):FirstCalls s (runB isDig s.data.toList) (runB isWd s.data.toList):=
 ⟨fun W=>run_any _ _ _ asks_w1 s (by omega) W,fun W=>run_any _ _ _ asks_d s (by omega) W⟩

/-! the walks: printed by wip/gen_lxfirst.py -/
theorem take_data (s:ByteArray) (d:Nat):(s.extract 0 d).data.toList =s.data.toList.take d:=by
 simp
theorem first_long (s:ByteArray) (w:World) (n:Nat) (hc:FirstCalls s 0 n) (hw:16 < n) (hn2:n≤4096) (hf:firstT s.data.toList=(0,0,82)):
  Calls Tryz.prog 128 #[.string s] w (FirstPost s.data.toList w):=by
 have H1:=hdq hc.r1
 have H2:=hdq hc.r2
 have hf':=hdq hf
 clear hc hf
 have hr:=Blk.new w 164 #[.int .u8 0,.string ⟨#[]⟩,.int .i64 0]
 have hb0:Below w.heap.size w (w.alloc (.cells #[.int .u8 0,.string ⟨#[]⟩,.int .i64 0] 164)):=(Below.refl _ _).alloc (lrq _) _
 go_enter Tryz.func128,Tryz.ntmps128
 go_wp2_with fail
 refine(H1.out _).mono ?_
 rintro _ w1 ⟨rfl,hb⟩
 have hr:=hr.below hb hr.lt
 have hb0:=hb0.trans (hb.mono hb0.size)
 clear hb
 go_wp2_with fail
 refine(H2.out _).mono ?_
 rintro _ w2 ⟨rfl,hb⟩
 have hr:=hr.below hb hr.lt
 have hb0:=hb0.trans (hb.mono hb0.size)
 clear hb
 have c0:=hr.cell 0
 have c1:=hr.cell 1
 have c2:=hr.cell 2
 have f0:=hr.frozen 0
 have f1:=hr.frozen 1
 have f2:=hr.frozen 2
 simp only[getsL]at c0 c1 c2
 go_wp2_with fail
 have hE:=((hr.set_ 0 (.int .u8 0)).set_ 1 (.string ⟨#[]⟩)).set_ 2 (.int .i64 0)
 simp only[List.setIfInBounds_toArray,List.set_cons_zero,List.set_cons_succ]at hE
 have e0:=hE.cell 0
 have e1:=hE.cell 1
 have e2:=hE.cell 2
 simp only[getsL]at e0 e1 e2
 have hbE:=((hb0.setCell (p:=⟨w.heap.size,0,none⟩) (lrq _) (.int .u8 0)).setCell (p:=⟨w.heap.size,1,none⟩) (lrq _) (.string ⟨#[]⟩)).setCell (p:=⟨w.heap.size,2,none⟩) (lrq _) (.int .i64 0)
 exact bodyPost_ret (v:= .tuple #[.agg #[.int .u8 0,.string ⟨#[]⟩,.int .i64 0],.int .i64 82]) (by simp[results,Tryz.results128,go_sem,e0,e1,e2]) rfl (firstPost_of hf'.out (n:=0) rfl hbE)
theorem first_word (s:ByteArray) (w:World) (n:Nat) (hc:FirstCalls s 0 n) (hw:¬16 < n) (hn0:0 < n) (hns:n≤s.size) (hs:s.size≤4096) (hf:firstT s.data.toList=(1,n,0)):
  Calls Tryz.prog 128 #[.string s] w (FirstPost s.data.toList w):=by
 have H1:=hdq hc.r1
 have H2:=hdq hc.r2
 have hf':=hdq hf
 clear hc hf
 have hr:=Blk.new w 164 #[.int .u8 0,.string ⟨#[]⟩,.int .i64 0]
 have hb0:Below w.heap.size w (w.alloc (.cells #[.int .u8 0,.string ⟨#[]⟩,.int .i64 0] 164)):=(Below.refl _ _).alloc (lrq _) _
 go_enter Tryz.func128,Tryz.ntmps128
 go_wp2_with fail
 refine(H1.out _).mono ?_
 rintro _ w1 ⟨rfl,hb⟩
 have hr:=hr.below hb hr.lt
 have hb0:=hb0.trans (hb.mono hb0.size)
 clear hb
 go_wp2_with fail
 refine(H2.out _).mono ?_
 rintro _ w2 ⟨rfl,hb⟩
 have hr:=hr.below hb hr.lt
 have hb0:=hb0.trans (hb.mono hb0.size)
 clear hb
 have c0:=hr.cell 0
 have c1:=hr.cell 1
 have c2:=hr.cell 2
 have f0:=hr.frozen 0
 have f1:=hr.frozen 1
 have f2:=hr.frozen 2
 simp only[getsL]at c0 c1 c2
 go_wp2_with fail
 have hE:=((hr.set_ 0 (.int .u8 1)).set_ 1 (.string (s.extract 0 n))).set_ 2 (.int .i64 0)
 simp only[List.setIfInBounds_toArray,List.set_cons_zero,List.set_cons_succ]at hE
 have e0:=hE.cell 0
 have e1:=hE.cell 1
 have e2:=hE.cell 2
 simp only[getsL]at e0 e1 e2
 have hbE:=((hb0.setCell (p:=⟨w.heap.size,0,none⟩) (lrq _) (.int .u8 1)).setCell (p:=⟨w.heap.size,1,none⟩) (lrq _) (.string (s.extract 0 n))).setCell (p:=⟨w.heap.size,2,none⟩) (lrq _) (.int .i64 0)
 exact bodyPost_ret (v:= .tuple #[.agg #[.int .u8 1,.string (s.extract 0 n),.int .i64 0],.int .i64 0]) (by simp[results,Tryz.results128,go_sem,e0,e1,e2]) rfl (firstPost_of hf'.out (take_data s n) hbE)
theorem find_step {l:List UInt8} {k:Nat} (hk:k < 25) (hp:Lib.hasPrefix l (signL.getD k [])=false) (h:signL.find? (fun s=>s.isPrefixOf l)=(signL.drop k).find? (fun s=>s.isPrefixOf l)):
  signL.find? (fun s=>s.isPrefixOf l)=(signL.drop (k+1)).find? (fun s=>s.isPrefixOf l):=by
 have hlt:k < signL.length:=hk
 rw[h,List.drop_eq_getElem_cons hlt,List.find?_cons]
 have:signL.getD k []=signL[k]:=by simp[hlt]
 rw[this]at hp
 unfold Lib.hasPrefix at hp
 rw[hp]
theorem find_here {l:List UInt8} {k:Nat} (hk:k < 25) (hp:Lib.hasPrefix l (signL.getD k [])=true) (h:signL.find? (fun s=>s.isPrefixOf l)=(signL.drop k).find? (fun s=>s.isPrefixOf l)):
  signL.find? (fun s=>s.isPrefixOf l)=some (signL.getD k []):=by
 have hlt:k < signL.length:=hk
 have:signL.getD k []=signL[k]:=by simp[hlt]
 rw[h,List.drop_eq_getElem_cons hlt,List.find?_cons,this]
 rw[this]at hp
 unfold Lib.hasPrefix at hp
 rw[hp]
theorem first_sign (s:ByteArray) (w:World) (hc:FirstCalls s 0 0) (hf:firstT s.data.toList=match signL.find? (fun x=>x.isPrefixOf s.data.toList)with|some x=>(3,x.length,0)|none=>(0,0,80)):
  Calls Tryz.prog 128 #[.string s] w (FirstPost s.data.toList w):=by
 have H1:=hdq hc.r1
 have H2:=hdq hc.r2
 have hf':=hdq hf
 clear hc hf
 have hr:=Blk.new w 164 #[.int .u8 0,.string ⟨#[]⟩,.int .i64 0]
 have hb0:Below w.heap.size w (w.alloc (.cells #[.int .u8 0,.string ⟨#[]⟩,.int .i64 0] 164)):=(Below.refl _ _).alloc (lrq _) _
 go_enter Tryz.func128,Tryz.ntmps128
 go_wp2_with fail
 refine(H1.out _).mono ?_
 rintro _ w1 ⟨rfl,hb⟩
 have hr:=hr.below hb hr.lt
 have hb0:=hb0.trans (hb.mono hb0.size)
 clear hb
 go_wp2_with fail
 refine(H2.out _).mono ?_
 rintro _ w2 ⟨rfl,hb⟩
 have hr:=hr.below hb hr.lt
 have hb0:=hb0.trans (hb.mono hb0.size)
 clear hb
 go_wp2_with fail
 refine(signs_any _).mono ?_
 rintro _ w3 ⟨rfl,hb⟩
 have hr:=hr.below hb hr.lt
 have hb0:=hb0.trans (hb.mono hb0.size)
 clear hb
 go_wp2_with fail
 go_loop [56] (fun i=>∃k:Nat,k≤25∧i= .int .i64 k∧Hid (signL.find? (fun x=>x.isPrefixOf s.data.toList)=(signL.drop k).find? (fun x=>x.isPrefixOf s.data.toList))) (fun i=>25 - (intOf i).toNat)
 case atStart=>exact⟨0,Nat.zero_le _,rfl,rfl⟩
 case round=>
  obtain⟨k,hk,rfl,hfd⟩:=hrel
  by_cases hlt:k < 25
  ·have hidx:=sign_at k hlt
   obtain⟨sg,hsg⟩:∃sg:ByteArray,sg=⟨(signL.getD k []).toArray⟩:=⟨_,rfl⟩
   have hsl:sg.data.toList=signL.getD k []:=by rw[hsg]
   rw[←hsg]at hidx
   have hcall:=Tryz.strings_HasPrefix s sg w3
   rw[hsl]at hcall
   have HSL:=hdq hsl
   clear hsg hsl
   cases hp:Lib.hasPrefix s.data.toList (signL.getD k [])
   ·have HN:=hdq (find_step hlt hp hfd.out)
    rw[hp]at hcall
    have HC:=hdq hcall
    clear hp hcall hfd
    go_wp2_with fail
    refine HC.out.mono ?_
    rintro _ w4 ⟨rfl,rfl⟩
    go_wp2_with fail
    go_round
    case rel=>exact⟨k+1,by omega,by go_num,HN.out⟩
    case measure=>simp[intOf];omega
   ·have HN:=hdq (find_here hlt hp hfd.out)
    have HT:Hid (sg.data.toList=s.data.toList.take (signL.getD k []).length):=by
     show _=_
     rw[HSL.out]
     exact List.prefix_iff_eq_take.1 (List.isPrefixOf_iff_prefix.1 hp)
    rw[hp]at hcall
    have HC:=hdq hcall
    have HF:Hid (firstT s.data.toList=(3,(signL.getD k []).length,0)):=by show _=_;rw[hf'.out,HN.out]
    clear hp hcall hfd
    have c0:=hr.cell 0
    have c1:=hr.cell 1
    have c2:=hr.cell 2
    have f0:=hr.frozen 0
    have f1:=hr.frozen 1
    have f2:=hr.frozen 2
    simp only[getsL]at c0 c1 c2
    go_wp2_with fail
    refine HC.out.mono ?_
    rintro _ w4 ⟨rfl,rfl⟩
    go_wp2_with fail
    have hE:=((hr.set_ 0 (.int .u8 3)).set_ 1 (.string sg)).set_ 2 (.int .i64 0)
    simp only[List.setIfInBounds_toArray,List.set_cons_zero,List.set_cons_succ]at hE
    have e0:=hE.cell 0
    have e1:=hE.cell 1
    have e2:=hE.cell 2
    simp only[getsL]at e0 e1 e2
    have hbE:=((hb0.setCell (p:=⟨w.heap.size,0,none⟩) (lrq _) (.int .u8 3)).setCell (p:=⟨w.heap.size,1,none⟩) (lrq _) (.string sg)).setCell (p:=⟨w.heap.size,2,none⟩) (lrq _) (.int .i64 0)
    exact bodyPost_ret (v:= .tuple #[.agg #[.int .u8 3,.string sg,.int .i64 0],.int .i64 0]) (by simp[results,Tryz.results128,go_sem,e0,e1,e2]) rfl (firstPost_of HF.out HT.out hbE)
  ·have HF:Hid (firstT s.data.toList=(0,0,80)):=by
    show _=_
    have h2:=hfd.out
    rw[show signL.drop k= []from List.drop_eq_nil_of_le (by show 25≤k;omega)]at h2
    rw[hf'.out,h2]
    rfl
   clear hfd
   have c0:=hr.cell 0
   have c1:=hr.cell 1
   have c2:=hr.cell 2
   have f0:=hr.frozen 0
   have f1:=hr.frozen 1
   have f2:=hr.frozen 2
   simp only[getsL]at c0 c1 c2
   go_wp2_with fail
   have hE:=((hr.set_ 0 (.int .u8 0)).set_ 1 (.string ⟨#[]⟩)).set_ 2 (.int .i64 0)
   simp only[List.setIfInBounds_toArray,List.set_cons_zero,List.set_cons_succ]at hE
   have e0:=hE.cell 0
   have e1:=hE.cell 1
   have e2:=hE.cell 2
   simp only[getsL]at e0 e1 e2
   have hbE:=((hb0.setCell (p:=⟨w.heap.size,0,none⟩) (lrq _) (.int .u8 0)).setCell (p:=⟨w.heap.size,1,none⟩) (lrq _) (.string ⟨#[]⟩)).setCell (p:=⟨w.heap.size,2,none⟩) (lrq _) (.int .i64 0)
   exact bodyPost_ret (v:= .tuple #[.agg #[.int .u8 0,.string ⟨#[]⟩,.int .i64 0],.int .i64 80]) (by simp[results,Tryz.results128,go_sem,e0,e1,e2]) rfl (firstPost_of HF.out (n:=0) rfl hbE)
theorem first_num (s:ByteArray) (w:World) (d n:Nat) (v:Int) (hc:FirstCalls s d n) (hd0:0 < d) (hds:d≤s.size) (hs:s.size≤4096) (hnn:n≤4096)
  (HP:∀W,Calls Tryz.prog 196 #[.string (s.extract 0 d),.int .i64 10,.int .i64 64] W fun e w'=>e= .returned (.tuple #[.int .i64 v,.nilIface])∧Below W.heap.size W w')
  (HI:∀W,Below w.heap.size w W→Calls Tryz.prog 197 #[.int .i64 v,.int .i64 10] W fun e w'=>e= .returned (.string (s.extract 0 d))∧Below W.heap.size W w')
  (hlt:decide (d < n)=false) (hf:firstT s.data.toList=(2,d,0)):
  Calls Tryz.prog 128 #[.string s] w (FirstPost s.data.toList w):=by
 have H1:=hdq hc.r1
 have H2:=hdq hc.r2
 have hf':=hdq hf
 have HP':=hdq HP
 have HI':=hdq HI
 clear hc hf HP HI
 have hr:=Blk.new w 164 #[.int .u8 0,.string ⟨#[]⟩,.int .i64 0]
 have hb0:Below w.heap.size w (w.alloc (.cells #[.int .u8 0,.string ⟨#[]⟩,.int .i64 0] 164)):=(Below.refl _ _).alloc (lrq _) _
 go_enter Tryz.func128,Tryz.ntmps128
 go_wp2_with fail
 refine(H1.out _).mono ?_
 rintro _ w1 ⟨rfl,hb⟩
 have hr:=hr.below hb hr.lt
 have hb0:=hb0.trans (hb.mono hb0.size)
 clear hb
 go_wp2_with fail
 refine(H2.out _).mono ?_
 rintro _ w2 ⟨rfl,hb⟩
 have hr:=hr.below hb hr.lt
 have hb0:=hb0.trans (hb.mono hb0.size)
 clear hb
 go_wp2_with fail
 refine(HP'.out _).mono ?_
 rintro _ w3 ⟨rfl,hb⟩
 have hr:=hr.below hb hr.lt
 have hb0:=hb0.trans (hb.mono hb0.size)
 clear hb
 have C:=hdq (fun(W:World) (h:Below w3.heap.size w3 W)=>(HI'.out W (hb0.trans (h.mono hb0.size))).mono fun x w' h2=>show x= .returned (.string (s.extract 0 d))∧Below w3.heap.size w3 w' from⟨h2.1,h.trans (h2.2.mono h.size)⟩)
 have hS:Below w3.heap.size w3 w3.drew:=(Below.refl _ _).drew
 have hnon:Nonempty (HeldW (Below w3.heap.size w3)):=⟨⟨_,hS⟩⟩
 have HR:=hdq hr
 have HB0:=hdq hb0
 clear hr hb0
 go_wp2_with fail
 refine wp_region_held (Below w3.heap.size w3) hS (by kernel_rfl) (by kernel_rfl) ?_
 repeat(go_big_quiet_step ((go_at_call 197;exact held_call C.out)))
 refine wpQuiet_nil ?_
 intro _ hw'
 obtain⟨z,rfl⟩:=hw'
 have hr:=HR.out.below z.h HR.out.lt
 have hb0:=HB0.out.trans (z.h.mono HB0.out.size)
 have c0:=hr.cell 0
 have c1:=hr.cell 1
 have c2:=hr.cell 2
 have f0:=hr.frozen 0
 have f1:=hr.frozen 1
 have f2:=hr.frozen 2
 simp only[getsL]at c0 c1 c2
 go_wp2_with fail
 have hE:=((hr.set_ 0 (.int .u8 2)).set_ 1 (.string (s.extract 0 d))).set_ 2 (.int .i64 0)
 simp only[List.setIfInBounds_toArray,List.set_cons_zero,List.set_cons_succ]at hE
 have e0:=hE.cell 0
 have e1:=hE.cell 1
 have e2:=hE.cell 2
 simp only[getsL]at e0 e1 e2
 have hbE:=((hb0.setCell (p:=⟨w.heap.size,0,none⟩) (lrq _) (.int .u8 2)).setCell (p:=⟨w.heap.size,1,none⟩) (lrq _) (.string (s.extract 0 d))).setCell (p:=⟨w.heap.size,2,none⟩) (lrq _) (.int .i64 0)
 exact bodyPost_ret (v:= .tuple #[.agg #[.int .u8 2,.string (s.extract 0 d),.int .i64 0],.int .i64 0]) (by simp[results,Tryz.results128,go_sem,e0,e1,e2]) rfl (firstPost_of hf'.out (take_data s d) hbE)
theorem first_num2 (s:ByteArray) (w:World) (d n:Nat) (v:Int) (hc:FirstCalls s d n) (hd0:0 < d) (hds:d≤s.size) (hs:s.size≤4096) (hnn:n≤4096)
  (HP:∀W,Calls Tryz.prog 196 #[.string (s.extract 0 d),.int .i64 10,.int .i64 64] W fun e w'=>e= .returned (.tuple #[.int .i64 v,.nilIface])∧Below W.heap.size W w')
  (HI:∀W,Below w.heap.size w W→Calls Tryz.prog 197 #[.int .i64 v,.int .i64 10] W fun e w'=>e= .returned (.string (s.extract 0 d))∧Below W.heap.size W w')
  (hlt:decide (d < n)=true) (hf:firstT s.data.toList=(0,0,81)):
  Calls Tryz.prog 128 #[.string s] w (FirstPost s.data.toList w):=by
 have H1:=hdq hc.r1
 have H2:=hdq hc.r2
 have hf':=hdq hf
 have HP':=hdq HP
 have HI':=hdq HI
 clear hc hf HP HI
 have hr:=Blk.new w 164 #[.int .u8 0,.string ⟨#[]⟩,.int .i64 0]
 have hb0:Below w.heap.size w (w.alloc (.cells #[.int .u8 0,.string ⟨#[]⟩,.int .i64 0] 164)):=(Below.refl _ _).alloc (lrq _) _
 go_enter Tryz.func128,Tryz.ntmps128
 go_wp2_with fail
 refine(H1.out _).mono ?_
 rintro _ w1 ⟨rfl,hb⟩
 have hr:=hr.below hb hr.lt
 have hb0:=hb0.trans (hb.mono hb0.size)
 clear hb
 go_wp2_with fail
 refine(H2.out _).mono ?_
 rintro _ w2 ⟨rfl,hb⟩
 have hr:=hr.below hb hr.lt
 have hb0:=hb0.trans (hb.mono hb0.size)
 clear hb
 go_wp2_with fail
 refine(HP'.out _).mono ?_
 rintro _ w3 ⟨rfl,hb⟩
 have hr:=hr.below hb hr.lt
 have hb0:=hb0.trans (hb.mono hb0.size)
 clear hb
 have C:=hdq (fun(W:World) (h:Below w3.heap.size w3 W)=>(HI'.out W (hb0.trans (h.mono hb0.size))).mono fun x w' h2=>show x= .returned (.string (s.extract 0 d))∧Below w3.heap.size w3 w' from⟨h2.1,h.trans (h2.2.mono h.size)⟩)
 have hS:Below w3.heap.size w3 w3.drew:=(Below.refl _ _).drew
 have hnon:Nonempty (HeldW (Below w3.heap.size w3)):=⟨⟨_,hS⟩⟩
 have HR:=hdq hr
 have HB0:=hdq hb0
 clear hr hb0
 go_wp2_with fail
 refine wp_region_held (Below w3.heap.size w3) hS (by kernel_rfl) (by kernel_rfl) ?_
 repeat(go_big_quiet_step ((go_at_call 197;exact held_call C.out)))
 refine wpQuiet_nil ?_
 intro _ hw'
 obtain⟨z,rfl⟩:=hw'
 have hr:=HR.out.below z.h HR.out.lt
 have hb0:=HB0.out.trans (z.h.mono HB0.out.size)
 have c0:=hr.cell 0
 have c1:=hr.cell 1
 have c2:=hr.cell 2
 have f0:=hr.frozen 0
 have f1:=hr.frozen 1
 have f2:=hr.frozen 2
 simp only[getsL]at c0 c1 c2
 go_wp2_with fail
 have hE:=((hr.set_ 0 (.int .u8 0)).set_ 1 (.string ⟨#[]⟩)).set_ 2 (.int .i64 0)
 simp only[List.setIfInBounds_toArray,List.set_cons_zero,List.set_cons_succ]at hE
 have e0:=hE.cell 0
 have e1:=hE.cell 1
 have e2:=hE.cell 2
 simp only[getsL]at e0 e1 e2
 have hbE:=((hb0.setCell (p:=⟨w.heap.size,0,none⟩) (lrq _) (.int .u8 0)).setCell (p:=⟨w.heap.size,1,none⟩) (lrq _) (.string ⟨#[]⟩)).setCell (p:=⟨w.heap.size,2,none⟩) (lrq _) (.int .i64 0)
 exact bodyPost_ret (v:= .tuple #[.agg #[.int .u8 0,.string ⟨#[]⟩,.int .i64 0],.int .i64 81]) (by simp[results,Tryz.results128,go_sem,e0,e1,e2]) rfl (firstPost_of hf'.out (n:=0) rfl hbE)
theorem first_num3 (s:ByteArray) (w:World) (d n:Nat) (v:Int) (t:ByteArray) (ht:(t.toList==(s.extract 0 d).toList)=false) (hc:FirstCalls s d n) (hd0:0 < d) (hds:d≤s.size) (hs:s.size≤4096) (hnn:n≤4096)
  (HP:∀W,Calls Tryz.prog 196 #[.string (s.extract 0 d),.int .i64 10,.int .i64 64] W fun e w'=>e= .returned (.tuple #[.int .i64 v,.nilIface])∧Below W.heap.size W w')
  (HI:∀W,Below w.heap.size w W→Calls Tryz.prog 197 #[.int .i64 v,.int .i64 10] W fun e w'=>e= .returned (.string t)∧Below W.heap.size W w')
  (hf:firstT s.data.toList=(0,0,81)):
  Calls Tryz.prog 128 #[.string s] w (FirstPost s.data.toList w):=by
 have H1:=hdq hc.r1
 have H2:=hdq hc.r2
 have hf':=hdq hf
 have HP':=hdq HP
 have HI':=hdq HI
 clear hc hf HP HI
 have hr:=Blk.new w 164 #[.int .u8 0,.string ⟨#[]⟩,.int .i64 0]
 have hb0:Below w.heap.size w (w.alloc (.cells #[.int .u8 0,.string ⟨#[]⟩,.int .i64 0] 164)):=(Below.refl _ _).alloc (lrq _) _
 go_enter Tryz.func128,Tryz.ntmps128
 go_wp2_with fail
 refine(H1.out _).mono ?_
 rintro _ w1 ⟨rfl,hb⟩
 have hr:=hr.below hb hr.lt
 have hb0:=hb0.trans (hb.mono hb0.size)
 clear hb
 go_wp2_with fail
 refine(H2.out _).mono ?_
 rintro _ w2 ⟨rfl,hb⟩
 have hr:=hr.below hb hr.lt
 have hb0:=hb0.trans (hb.mono hb0.size)
 clear hb
 go_wp2_with fail
 refine(HP'.out _).mono ?_
 rintro _ w3 ⟨rfl,hb⟩
 have hr:=hr.below hb hr.lt
 have hb0:=hb0.trans (hb.mono hb0.size)
 clear hb
 have C:=hdq (fun(W:World) (h:Below w3.heap.size w3 W)=>(HI'.out W (hb0.trans (h.mono hb0.size))).mono fun x w' h2=>show x= .returned (.string t)∧Below w3.heap.size w3 w' from⟨h2.1,h.trans (h2.2.mono h.size)⟩)
 have hS:Below w3.heap.size w3 w3.drew:=(Below.refl _ _).drew
 have hnon:Nonempty (HeldW (Below w3.heap.size w3)):=⟨⟨_,hS⟩⟩
 have HR:=hdq hr
 have HB0:=hdq hb0
 clear hr hb0
 go_wp2_with fail
 refine wp_region_held (Below w3.heap.size w3) hS (by kernel_rfl) (by kernel_rfl) ?_
 repeat(go_big_quiet_step ((go_at_call 197;exact held_call C.out)))
 refine wpQuiet_nil ?_
 intro _ hw'
 obtain⟨z,rfl⟩:=hw'
 have hr:=HR.out.below z.h HR.out.lt
 have hb0:=HB0.out.trans (z.h.mono HB0.out.size)
 have c0:=hr.cell 0
 have c1:=hr.cell 1
 have c2:=hr.cell 2
 have f0:=hr.frozen 0
 have f1:=hr.frozen 1
 have f2:=hr.frozen 2
 simp only[getsL]at c0 c1 c2
 go_wp2_with fail
 have hE:=((hr.set_ 0 (.int .u8 0)).set_ 1 (.string ⟨#[]⟩)).set_ 2 (.int .i64 0)
 simp only[List.setIfInBounds_toArray,List.set_cons_zero,List.set_cons_succ]at hE
 have e0:=hE.cell 0
 have e1:=hE.cell 1
 have e2:=hE.cell 2
 simp only[getsL]at e0 e1 e2
 have hbE:=((hb0.setCell (p:=⟨w.heap.size,0,none⟩) (lrq _) (.int .u8 0)).setCell (p:=⟨w.heap.size,1,none⟩) (lrq _) (.string ⟨#[]⟩)).setCell (p:=⟨w.heap.size,2,none⟩) (lrq _) (.int .i64 0)
 exact bodyPost_ret (v:= .tuple #[.agg #[.int .u8 0,.string ⟨#[]⟩,.int .i64 0],.int .i64 81]) (by simp[results,Tryz.results128,go_sem,e0,e1,e2]) rfl (firstPost_of hf'.out (n:=0) rfl hbE)
theorem first_num4 (s:ByteArray) (w:World) (d n:Nat) (hc:FirstCalls s d n) (hd0:0 < d) (hds:d≤s.size) (hs:s.size≤4096) (hnn:n≤4096) (hf:firstT s.data.toList=(0,0,81))
  (HP:∀W,Below w.heap.size w W→Calls Tryz.prog 196 #[.string (s.extract 0 d),.int .i64 10,.int .i64 64] W fun e w'=>∃m t p,e= .returned (.tuple #[.int .i64 m,.iface t p])∧Below W.heap.size W w'):
  Calls Tryz.prog 128 #[.string s] w (FirstPost s.data.toList w):=by
 have H1:=hdq hc.r1
 have H2:=hdq hc.r2
 have hf':=hdq hf
 have HP':=hdq HP
 clear hc hf HP
 have hr:=Blk.new w 164 #[.int .u8 0,.string ⟨#[]⟩,.int .i64 0]
 have hb0:Below w.heap.size w (w.alloc (.cells #[.int .u8 0,.string ⟨#[]⟩,.int .i64 0] 164)):=(Below.refl _ _).alloc (lrq _) _
 go_enter Tryz.func128,Tryz.ntmps128
 go_wp2_with fail
 refine(H1.out _).mono ?_
 rintro _ w1 ⟨rfl,hb⟩
 have hr:=hr.below hb hr.lt
 have hb0:=hb0.trans (hb.mono hb0.size)
 clear hb
 go_wp2_with fail
 refine(H2.out _).mono ?_
 rintro _ w2 ⟨rfl,hb⟩
 have hr:=hr.below hb hr.lt
 have hb0:=hb0.trans (hb.mono hb0.size)
 clear hb
 go_wp2_with fail
 refine(HP'.out _ hb0).mono ?_
 rintro _ w3 ⟨m,t,p,rfl,hb⟩
 have hr:=hr.below hb hr.lt
 have hb0:=hb0.trans (hb.mono hb0.size)
 clear hb
 go_wp2_with fail
 go_quiet (fail)
 have hr5:∀k,Blk (w3.drewN k) w.heap.size 164 #[.int .u8 0,.string ⟨#[]⟩,.int .i64 0]∧Below w.heap.size w (w3.drewN k):=fun k=>⟨hr,below_drewN hb0 k⟩
 generalize hw4:w3.drewN _=w4
 have h5:Blk w4 w.heap.size 164 #[.int .u8 0,.string ⟨#[]⟩,.int .i64 0]∧Below w.heap.size w w4:=by rw[←hw4];exact hr5 _
 clear hw4 hr5 hr hb0
 obtain⟨hr,hb0⟩:=h5
 have c0:=hr.cell 0
 have c1:=hr.cell 1
 have c2:=hr.cell 2
 have f0:=hr.frozen 0
 have f1:=hr.frozen 1
 have f2:=hr.frozen 2
 simp only[getsL]at c0 c1 c2
 go_wp2_with fail
 have hE:=((hr.set_ 0 (.int .u8 0)).set_ 1 (.string ⟨#[]⟩)).set_ 2 (.int .i64 0)
 simp only[List.setIfInBounds_toArray,List.set_cons_zero,List.set_cons_succ]at hE
 have e0:=hE.cell 0
 have e1:=hE.cell 1
 have e2:=hE.cell 2
 simp only[getsL]at e0 e1 e2
 have hbE:=((hb0.setCell (p:=⟨w.heap.size,0,none⟩) (lrq _) (.int .u8 0)).setCell (p:=⟨w.heap.size,1,none⟩) (lrq _) (.string ⟨#[]⟩)).setCell (p:=⟨w.heap.size,2,none⟩) (lrq _) (.int .i64 0)
 exact bodyPost_ret (v:= .tuple #[.agg #[.int .u8 0,.string ⟨#[]⟩,.int .i64 0],.int .i64 81]) (by simp[results,Tryz.results128,go_sem,e0,e1,e2]) rfl (firstPost_of hf'.out (n:=0) rfl hbE)

theorem firstT_num {l:List UInt8} (h:0 < runB isDig l):firstT l=if(numB (l.take (runB isDig l))&& !decide (runB isDig l < runB isWd l))=true then(2,runB isDig l,0)else(0,0,81):=by
 unfold firstT
 rw[if_pos h]
theorem firstT_none {l:List UInt8} (h:¬0 < runB isDig l):firstT l=if 16 < runB isWd l then((0:Int),0,(82:Int))else if 0 < runB isWd l then((1:Int),runB isWd l,(0:Int))else match signL.find? (fun x=>x.isPrefixOf l)with|some x=>((3:Int),x.length,(0:Int))|none=>((0:Int),0,(80:Int)):=by
 unfold firstT
 rw[if_neg h]
 rfl
theorem first_any (s:ByteArray) (hs:s.size≤4096) (w:World) (he:LexEnv w):Calls Tryz.prog 128 #[.string s] w (FirstPost s.data.toList w):=by
 have hc:=firstCalls s hs
 have hsz:s.data.toList.length=s.size:=by simp
 have hdl:=runB_le isDig s.data.toList
 have hnl:=runB_le isWd s.data.toList
 by_cases hd0:0 < runB isDig s.data.toList
 ·have hf:=firstT_num hd0
  obtain⟨d,hd⟩:=nmq (runB isDig s.data.toList)
  obtain⟨n,hn⟩:=nmq (runB isWd s.data.toList)
  have hdig:=takeWhile_dig s.data.toList
  rw[←hd]at hdig hd0 hf hc hdl
  rw[←hn]at hf hc hnl
  have htd:=take_data s d
  have hds:d≤s.size:=by omega
  have hne:s.data.toList.take d≠ []:=by
   intro e
   have:=congrArg List.length e
   rw[List.length_take,List.length_nil]at this
   omega
  rw[←htd]at hdig hne hf
  have hes:(s.extract 0 d).size ≤4096:=by
   have:(s.extract 0 d).data.toList.length =(s.extract 0 d).size :=by simp
   rw[htd]at this
   have h2:(s.data.toList.take d).length ≤d:=List.length_take_le _ _
   omega
  by_cases hv:decV (s.extract 0 d).data.toList ≤9223372036854775807
  ·have hP:∀W,Calls Tryz.prog 196 #[.string (s.extract 0 d),.int .i64 10,.int .i64 64] W fun e w'=>e= .returned (.tuple #[.int .i64 (decV (s.extract 0 d).data.toList),.nilIface])∧Below W.heap.size W w':=fun W=>
    pint_ok (s.extract 0 d) hes hdig hne hv W
   have hI:∀W,Below w.heap.size w W→Calls Tryz.prog 197 #[.int .i64 (decV (s.extract 0 d).data.toList),.int .i64 10] W fun e w'=>e= .returned (.string ⟨(Lib.itoa (decV (s.extract 0 d).data.toList :Int)).toArray⟩)∧Below W.heap.size W w':=fun W h=>
    fint_any _ hv W (he.keep h)
   have hsame:=itoa_same (s.extract 0 d).data.toList hdig hne
   have hnum:numB (s.extract 0 d).data.toList =((s.extract 0 d).data.toList.length ==1 || !((s.extract 0 d).data.toList.head? ==some 48)):=by
    unfold numB
    rw[decide_eq_true hv,Bool.and_true]
   rw[hnum,←hsame]at hf
   cases hz:(Lib.itoa (decV (s.extract 0 d).data.toList :Int)==(s.extract 0 d).data.toList)
   ·rw[hz]at hf
    rw[if_neg (by simp)]at hf
    exact first_num3 s w d n _ ⟨(Lib.itoa (decV (s.extract 0 d).data.toList :Int)).toArray⟩ (by rw[ByteArray.toList_mk,ByteArray.toList_eq];exact hz) hc hd0 hds hs (by omega) hP hI hf
   ·have e:(⟨(Lib.itoa (decV (s.extract 0 d).data.toList :Int)).toArray⟩:ByteArray)=s.extract 0 d:=by
     rw[eq_of_beq hz]
    rw[e]at hI
    rw[hz]at hf
    cases hl:decide (d < n)
    ·rw[hl]at hf
     rw[if_pos (by simp)]at hf
     exact first_num s w d n _ hc hd0 hds hs (by omega) hP hI hl hf
    ·rw[hl]at hf
     rw[if_neg (by simp)]at hf
     exact first_num2 s w d n _ hc hd0 hds hs (by omega) hP hI hl hf
  ·have hnum:numB (s.extract 0 d).data.toList =false:=by unfold numB;rw[decide_eq_false hv,Bool.and_false]
   rw[hnum]at hf
   rw[if_neg (by simp)]at hf
   exact first_num4 s w d n hc hd0 hds hs (by omega) hf fun W h=>pint_no (s.extract 0 d) hes hdig hne hv W (he.keep h)
 ·have h0:runB isDig s.data.toList=0:=by omega
  have hf:=firstT_none hd0
  rw[h0]at hc
  by_cases hw:16 < runB isWd s.data.toList
  ·rw[if_pos hw]at hf
   exact first_long s w _ hc hw (by omega) hf
  ·rw[if_neg hw]at hf
   by_cases hn0:0 < runB isWd s.data.toList
   ·rw[if_pos hn0]at hf
    exact first_word s w _ hc hw hn0 (by omega) hs hf
   ·rw[if_neg hn0]at hf
    have h1:runB isWd s.data.toList=0:=by omega
    rw[h1]at hc
    exact first_sign s w hc hf

/-! tokens in memory -/
def tkC (t:Tk):List Value:= [.int .u8 t.kind,.string ⟨t.text.toArray⟩,.int .i64 t.at_]
def TokPost (r:List Tk×Nat×Int) (W:World) (e:Ending) (w':World):Prop:=
 ∃v,e= .returned (.tuple #[v,.int .i64 r.2.1,.int .i64 r.2.2])∧w'.ownsRow W.heap.size 164 3 v r.1.length (r.1.flatMap tkC)∧Below W.heap.size W w'
theorem tokPost_of {r q:List Tk×Nat×Int} {W w':World} {v:Value} (h:r=q) (ho:w'.ownsRow W.heap.size 164 3 v q.1.length (q.1.flatMap tkC)) (hb:Below W.heap.size W w'):
  TokPost r W (.returned (.tuple #[v,.int .i64 q.2.1,.int .i64 q.2.2])) w':=by subst h;exact⟨v,rfl,ho,hb⟩

def prepT (acc:List Tk) (r:List Tk×Nat×Int):List Tk×Nat×Int:=if r.2.2=0 then(acc++r.1,0,0)else r
theorem tok_end {l:List UInt8} {p f:Nat} (h:(l.drop (p+runB isBlk (l.drop p))).length =0) (hf:0 < f):toksF f (l.drop p) p=([],0,0):=by
 obtain⟨g,rfl⟩:∃g,f=g+1:=⟨f - 1,by omega⟩
 rw[toksF]
 simp only[List.drop_drop]
 rw[if_pos h]
theorem tok_err {l:List UInt8} {p f:Nat} (h:¬(l.drop (p+runB isBlk (l.drop p))).length =0) (hf:0 < f) (he:¬(firstT (l.drop (p+runB isBlk (l.drop p)))).2.2 =0):
  toksF f (l.drop p) p=([],p+runB isBlk (l.drop p),(firstT (l.drop (p+runB isBlk (l.drop p)))).2.2):=by
 obtain⟨g,rfl⟩:∃g,f=g+1:=⟨f - 1,by omega⟩
 rw[toksF]
 simp only[List.drop_drop]
 rw[if_neg h,if_neg he]
theorem tok_go {l:List UInt8} {p b n:Nat} {k:Int} {acc:List Tk} (hb:b=runB isBlk (l.drop p)) (h:¬(l.drop (p+b)).length =0) (he:firstT (l.drop (p+b))=(k,n,0)) (hp:p≤l.length)
  {R:List Tk×Nat×Int} (hR:R=prepT acc (toksF (l.length+1 - p) (l.drop p) p)):
  R=prepT (acc++ [{kind:=k,text:=(l.drop (p+b)).take n,at_:=p+b}]) (toksF (l.length+1 - (p+b+n)) (l.drop (p+b+n)) (p+b+n)):=by
 have hn:0 < n:=by have:=firstT_pos (l:=l.drop (p+b)) (by rw[he]);rw[he]at this;exact this
 have hle:n≤(l.drop (p+b)).length :=by have:=firstT_le (l:=l.drop (p+b));rw[he]at this;exact this
 have hpb:p+b < l.length:=by simp only[List.length_drop]at h;omega
 rw[List.length_drop]at hle
 obtain⟨g,hg⟩:∃g,l.length+1 - p=g+1:=⟨l.length - p,by omega⟩
 have e:toksF (l.length+1 - p) (l.drop p) p=if(toksF (l.length+1 - (p+b+n)) (l.drop (p+b+n)) (p+b+n)).2.2 =0 then({kind:=k,text:=(l.drop (p+b)).take n,at_:=p+b}::(toksF (l.length+1 - (p+b+n)) (l.drop (p+b+n)) (p+b+n)).1,0,0)else toksF (l.length+1 - (p+b+n)) (l.drop (p+b+n)) (p+b+n):=by
  rw[hg,toksF]
  simp only[List.drop_drop,←hb]
  rw[if_neg h]
  simp only[he]
  rw[if_pos trivial]
  have hfu:=toksF_fuel g (l.length+1 - (p+b+n)) (l.drop (p+b+n)) (p+b+n) (by rw[List.length_drop];omega) (by rw[List.length_drop];omega)
  rw[hfu]
 rw[hR,e]
 unfold prepT
 by_cases h2:(toksF (l.length+1 - (p+b+n)) (l.drop (p+b+n)) (p+b+n)).2.2 =0
 ·rw[if_pos h2,if_pos rfl,if_pos h2]
  simp
 ·rw[if_neg h2,if_neg h2,if_neg h2]
theorem drop_data (s:ByteArray) (p:Nat):(s.extract p s.size).data.toList =s.data.toList.drop p:=by
 simp
 exact List.take_of_length_le (by simp)

theorem infoTk:(Tryz.prog.info? 164).map (fun i=>(i.zero,i.size,i.bytes))=some (some (.agg #[.int .u8 0,.string ⟨#[]⟩,.int .i64 0]),3,32):=by kernel_rfl
theorem tokens_long (s:ByteArray) (w:World) (h:4096 < s.size) (hs:s.size≤9223372036854775807):Calls Tryz.prog 61 #[.string s] w (TokPost (toks s.data.toList) w):=by
 have hr:toks s.data.toList=([],0,3):=by unfold toks;rw[if_pos (by rw[size_len];exact h)]
 have HR:=hdq hr
 have h2:decide (4096 < (s.size:Int))=true:=by simp;omega
 clear hr
 go_enter Tryz.func61,Tryz.ntmps61
 go_wp2
 go_ret3
 exact tokPost_of HR.out (World.ownsRow_nil _ _ _ _) (Below.refl _ _)

theorem toksF_ok:∀(f:Nat) (l:List UInt8) (p:Nat),(toksF f l p).2.2 =0→(toksF f l p).2.1 =0
 |0,_,_,_=>rfl
 |f+1,l,p,h=>by
  rw[toksF]at h ⊢
  simp only at h ⊢
  split
  ·rfl
  ·rename_i h1
   rw[if_neg h1]at h
   split
   ·rename_i h2
    rw[if_pos h2]at h
    split
    ·rfl
    ·rename_i h3
     rw[if_neg h3]at h
     exact absurd h h3
   ·rename_i h2
    rw[if_neg h2]at h
    exact absurd h h2
theorem tokens_short (s:ByteArray) (w:World) (hs:s.size≤4096) (he:LexEnv w):Calls Tryz.prog 61 #[.string s] w (TokPost (toks s.data.toList) w):=by
 have hr:toks s.data.toList=prepT [] (toksF (s.data.toList.length+1 - 0) (s.data.toList.drop 0) 0):=by
  unfold toks
  rw[if_neg (by rw[size_len];omega)]
  unfold prepT
  by_cases h:(toksF (s.data.toList.length+1) s.data.toList 0).2.2 =0
  ·rw[if_pos (by simpa using h)]
   have h2:=toksF_ok _ _ _ h
   simp only[Nat.sub_zero,List.drop_zero,List.nil_append]
   rw[Prod.ext_iff,Prod.ext_iff]
   exact⟨rfl,h2,h⟩
  ·rw[if_neg (by simpa using h)];simp
 have HR:=hdq hr
 have HE:=hdq he
 clear hr he
 obtain⟨i0,hi,hz0,hz1,hz2⟩:=info_parts infoTk
 go_enter Tryz.func61,Tryz.ntmps61
 go_wp2
 go_loopw [2,3] (fun v2 v3 wr=>∃(p:Nat) (acc:List Tk),p≤s.size∧v3= .int .i64 p∧acc.length≤p∧wr.ownsRow w.heap.size 164 3 v2 acc.length (acc.flatMap tkC)∧Below w.heap.size w wr∧Hid (toks s.data.toList=prepT acc (toksF (s.data.toList.length+1 - p) (s.data.toList.drop p) p))) (fun _ v3 _=>s.size - (intOf v3).toNat)
 case atStart=>exact⟨0, [],Nat.zero_le _,rfl,Nat.zero_le _,World.ownsRow_nil _ _ _ _,Below.refl _ _,HR.out⟩
 case round=>
  obtain⟨p,acc,hp,rfl,hap,hown,hb,hR⟩:=hrel
  have hlen:=size_len s
  have hrun:∀W,Calls Tryz.prog 126 #[.string (s.extract p s.size),.func (.func 127) #[] #[]] W (RunPost (runB isBlk (s.data.toList.drop p)) W):=fun W=>by
   have:=run_any _ _ _ asks_b (s.extract p s.size) (by simp;omega) W
   rw[drop_data]at this
   exact this
  obtain⟨b,hbq⟩:=nmq (runB isBlk (s.data.toList.drop p))
  have hbl:p+b≤s.size:=by
   have:=runB_le isBlk (s.data.toList.drop p)
   rw[←hbq,List.length_drop]at this
   omega
  rw[←hbq]at hrun
  have HRUN:=hdq hrun
  have HBQ:=hdq hbq
  have HO:=hdq hown
  have HB:=hdq hb
  have HL:=hdq hlen
  clear hrun hbq hown hb hlen
  go_wp2_with fail
  refine(HRUN.out _).mono ?_
  rintro _ w1 ⟨rfl,hb1⟩
  have hown:=HO.out.kept (only_of_below hb1 none) (by rcases Option.eq_none_or_eq_some u2.ownBlock with h|⟨_,h⟩<;>simp[h])
  have hbw:=HB.out.trans (hb1.mono HB.out.size)
  have HO1:=hdq hown
  have HB1:=hdq hbw
  clear hown hbw hb1 HO HB
  by_cases hend:p+b=s.size
  ·have hfin:toks s.data.toList=(acc,0,0):=by
    rw[hR.out,tok_end (by rw[←HBQ.out,List.length_drop,HL.out];omega) (by rw[HL.out];omega)]
    simp[prepT]
   have HF:=hdq hfin
   have e1:((↑p+ ↑b:Int)== ↑s.size)=true:=by simp;omega
   clear hfin hR
   go_wp2_with fail
   go_ret3
   exact tokPost_of HF.out HO1.out HB1.out
  ·have e1:((↑p+ ↑b:Int)== ↑s.size)=false:=by simp;omega
   have hne:¬(s.data.toList.drop (p+b)).length =0:=by rw[List.length_drop,HL.out];omega
   have hfc:=first_any (s.extract (p+b) s.size) (by simp;omega) w1 (HE.out.keep HB1.out)
   rw[drop_data]at hfc
   have hfle:=firstT_le (l:=s.data.toList.drop (p+b))
   obtain⟨⟨k,n,er⟩,hq⟩:=nmq (firstT (s.data.toList.drop (p+b)))
   unfold FirstPost at hfc
   rw[←hq]at hfc hfle
   simp only at hfc hfle
   rw[List.length_drop,HL.out]at hfle
   have HC:=hdq hfc
   have HQ:=hdq hq
   have HNE:=hdq hne
   clear hfc hq hne hend
   go_wp2_with fail
   refine HC.out.mono ?_
   rintro _ w2 ⟨tx,htx,rfl,hb2⟩
   have htl:tx.size=n:=by
    have:=congrArg List.length htx
    rw[List.length_take,List.length_drop,HL.out,size_len]at this
    omega
   have hown:=HO1.out.kept (only_of_below hb2 none) (by rcases Option.eq_none_or_eq_some u2.ownBlock with h|⟨_,h⟩<;>simp[h])
   have hbw:=HB1.out.trans (hb2.mono HB1.out.size)
   have hlt:=hown.lt
   have HO2:=hdq hown
   have HB2:=hdq hbw
   have HLT:=hdq hlt
   have HTX:=hdq (tx_eq htx)
   obtain rfl:n=tx.size:=htl.symm
   clear hown hbw hb2 htx htl hlt HC
   by_cases her:er=0
   ·subst her
    have hbig:(acc.length+1)*32≤140737488355328:=by omega
    go_wp2_with (at_builtin;refine wpList_append_own _ rfl _ _ 157 rfl w.heap.size 164 i0 (.agg #[.int .u8 0,.string ⟨#[]⟩,.int .i64 0]) 3 32 Tryz.underlying157 hi hz0 hz1 hz2 rfl (by decide) _ _ _ rfl ((HO2.out.alloc _).alloc _) ⟨w2.heap.size+1,0,none⟩ 1 1 [.int .u8 k,.string tx,.int .i64 (↑p+ ↑b)] rfl rfl ?c1 ?c2 ?c3 ?c4 ?c5 ?_)
    case c1=>
     intro j u hj
     match j,hj with
     |0,hj=>simp at hj;subst hj;simp[Addr.add]
     |1,hj=>simp at hj;subst hj;simp[Addr.add]
     |2,hj=>simp at hj;subst hj;simp[Addr.add]
    case c2=>
     intro u hu
     simp only[List.mem_cons,List.not_mem_nil,or_false]at hu
     rcases hu with rfl|rfl|rfl<;>rfl
    case c3=>unfold maxLen;omega
    case c4=>exact hbig
    case c5=>simp;have:=HB2.out.size;omega
    intro v' w3 hown3 hgrow _
    obtain⟨tk,htk⟩:∃tk:Tk,tk={kind:=k,text:=(s.data.toList.drop (p+b)).take tx.size,at_:=p+b}:=⟨_,rfl⟩
    have htp:0 < tx.size:=by have:=firstT_pos (l:=s.data.toList.drop (p+b)) (by rw[←HQ.out]);rw[←HQ.out]at this;exact this
    have hcell:w3.cell? ⟨w2.heap.size,1,none⟩=some (.string tx):=by
     refine(World.cell?_of_block (hgrow.block w2.heap.size (by simp;omega) (fun e=>?_))).trans (by simp)
     have:=HLT.out w2.heap.size e.symm
     omega
    have hbn:Below w.heap.size w w3:=((HB2.out.alloc HB2.out.size _).alloc (by simp;have:=HB2.out.size;omega) _).grown hgrow (by simp;have:=HB2.out.size;omega) (fun g hg=>(HLT.out g hg).1)
    have hgo:=tok_go HBQ.out HNE.out HQ.out.symm (by rw[HL.out];exact hp) hR.out
    rw[←htk]at hgo
    have hown4:w3.ownsRow w.heap.size 164 3 v' (acc++ [tk]).length ((acc++ [tk]).flatMap tkC):=by
     rw[List.flatMap_append,List.length_append]
     have e:([tk]:List Tk).flatMap tkC= [.int .u8 k,.string tx,.int .i64 (↑p+ ↑b)]:=by
      rw[htk]
      simp only[List.flatMap_cons,List.flatMap_nil,List.append_nil,tkC,←HTX.out]
      rw[show(((p+b:Nat):Int))= ↑p+ ↑b from by omega]
     rw[e]
     exact hown3
    have HG:=hdq hgo
    have HO4:=hdq hown4
    have HB4:=hdq hbn
    clear hown3 hgrow hgo hown4 hbn hR htk
    go_wp2_with fail
    go_roundw
    case rel=>exact⟨p+b+tx.size,acc++ [tk],by omega,by go_num,by rw[List.length_append];simp;omega,HO4.out,HB4.out,HG.out⟩
    case measure=>simp[intOf];omega
   ·have e2:(er != 0)=true:=by simpa using her
    have hfin:toks s.data.toList=([],p+b,er):=by
     have h0:=HNE.out
     rw[hR.out,tok_err (by rw[←HBQ.out];exact h0) (by rw[HL.out];omega) (by rw[←HBQ.out,←HQ.out];exact her),←HBQ.out,←HQ.out]
     simp[prepT,her]
    have hP:∀W,Below w.heap.size w W→TokPost (toks s.data.toList) w (.returned (.tuple #[.slice none 0 0,.int .i64 (↑p+ ↑b),.int .i64 er])) W:=fun W h=>by
     have:=tokPost_of (v:= .slice none 0 0) hfin (World.ownsRow_nil W w.heap.size 164 3) h
     rw[show(((p+b:Nat):Int))= ↑p+ ↑b from by omega]at this
     exact this
    have HP:=hdq hP
    clear hP hfin her
    go_wp2_with fail
    go_ret3
    exact HP.out _ (HB2.out.alloc HB2.out.size _)

structure NameEnv (w:World):Prop where
 lex:LexEnv w
 sp:Lib.TabIs Tryz.prog w "strings.asciiSpace" .u8 Lib.asciiSpaceTab
theorem NameEnv.keep {w w':World} (h:NameEnv w) (hb:Below w.heap.size w w'):NameEnv w':=
 ⟨h.lex.keep hb,by have:=h.sp;unfold Lib.TabIs at this ⊢;exact var_keep hb this⟩
theorem NameEnv.toSp {w:World} (h:NameEnv w):SpEnv w:=⟨h.sp⟩
theorem name_any (s:ByteArray) (hs:s.size≤9223372036854775807) (w:World) (he:NameEnv w):Calls Tryz.prog 91 #[.string s] w fun e w'=>e= .returned (.bool (nameB s.data.toList))∧Below w.heap.size w w':=name_sp s hs w he.toSp

theorem tokens_any (s:ByteArray) (hs:s.size≤9223372036854775807) (w:World) (he:LexEnv w):Calls Tryz.prog 61 #[.string s] w (TokPost (toks s.data.toList) w):=by
 by_cases h:4096 < s.size
 ·exact tokens_long s w h hs
 ·exact tokens_short s w (by omega) he
end Go.Proofs.YtfomomaomggpbaaGreatDoor
