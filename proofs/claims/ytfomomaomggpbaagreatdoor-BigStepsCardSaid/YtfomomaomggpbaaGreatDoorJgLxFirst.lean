/- lex.first: the first token of a text that begins with one. -/
import Derived.Test.YtfomomaomggpbaaGreatDoorJgBase
import Derived.Deep.RegionWith
set_option linter.all false
set_option maxHeartbeats 3200000
set_option maxRecDepth 100000
namespace Go.Proofs.YtfomomaomggpbaaGreatDoor
open Go.RowKit Go.Shelf
def Blk (w:World)(g:Nat)(t:TypeId)(cs:Array Value):Prop:=w.heap[g]?=some (.cells cs t (0,0))
theorem Blk.cell {w:World}{g:Nat}{t:TypeId}{cs:Array Value}(h:Blk w g t cs)(i:Nat):w.cell? ⟨g,i,none⟩=cs[i]?:=cell_of_row w g i cs t (0,0) h
theorem Blk.frozen {w:World}{g:Nat}{t:TypeId}{cs:Array Value}(h:Blk w g t cs)(i:Nat):w.frozen? ⟨g,i,none⟩=false:=by
 unfold Blk at h;simp[World.frozen?,h]
theorem Blk.new (w:World)(t:TypeId)(cs:Array Value):Blk (w.alloc (.cells cs t)) w.heap.size t cs:=heap_alloc_new w _
theorem Blk.lt {w:World}{g:Nat}{t:TypeId}{cs:Array Value}(h:Blk w g t cs):g < w.heap.size:=by
 rcases Nat.lt_or_ge g w.heap.size with Hl|Fz
 ·exact Hl
 ·unfold Blk at h;rw[Array.getElem?_eq_none Fz]at h;cases h
theorem Blk.set_ {w:World}{g:Nat}{t:TypeId}{cs:Array Value}(h:Blk w g t cs)(i:Nat)(u:Value):Blk (w.setCell ⟨g,i,none⟩ u) g t (cs.setIfInBounds i u):=by
 unfold Blk at h ⊢;simp[World.setCell,Array.getElem?_modify,h]
theorem Blk.below {w w':World}{B g:Nat}{t:TypeId}{cs:Array Value}(h:Blk w g t cs)(hb:Below B w w')(hg:g < B):Blk w' g t cs:=(hb.block g hg).trans h
def zaS (l:List UInt8)(W:World)(e:Ending)(w':World):Prop:=
 ∃tx:ByteArray,tx.data.toList=l.take (zao l).2.1 /\e= .returned (.tuple #[.agg #[.int .u8 (zao l).1,.string tx,.int .i64 0],.int .i64 (zao l).2.2])/\Below W.heap.size W w'
theorem zaG {l:List UInt8}{W w':World}{tx:ByteArray}{k er:Int}{n:Nat}(h:zao l=(k,n,er))(ht:tx.data.toList=l.take n)(hb:Below W.heap.size W w'):
  zaS l W (.returned (.tuple #[.agg #[.int .u8 k,.string tx,.int .i64 0],.int .i64 er])) w':=
 ⟨tx,by rw[h];exact ht,by rw[h],hb⟩
def zog:Value:= .agg (signL.map λs=>Value.string ⟨s.toArray⟩).toArray
theorem zi6 (w:World):Calls Tryz.prog 198 #[] w λe w'=>e= .returned zog/\Below w.heap.size w w':=by
 go_enter Tryz.func198,Tryz.ntmps198;go_wp2_with (first|(refine wpList_build rfl 292 _ rfl (by kernel_rfl) ?_)|(refine wpList_store_row rfl 292 _ _ rfl w.heap.size _ rfl rfl 292 _ (heap_alloc_new _ _) (by kernel_rfl) (by kernel_rfl) (by kernel_rfl) ?_));exact bodyPost_ret (results_cell_row (p:=0) (ty:=292) rfl _ _ w.heap.size 292 _ (0,0) _ rfl (setRow_heap _ _ _ _ _ _ (heap_alloc_new _ _)) Tryz.underlying292 rfl (by kernel_rfl)) rfl ⟨by kernel_rfl,zbu ((Below.refl _ _).alloc (lrq _) _) (lrq _) _⟩
theorem znb (k:Nat)(hk:k < 25):∀w,(Instr.index 292 zog (.int .i64 k)).run Tryz.prog w= .ok (.string ⟨(signL.getD k []).toArray⟩) w:=by
 have h:k=0\/k=1\/k=2\/k=3\/k=4\/k=5\/k=6\/k=7\/k=8\/k=9\/k=10\/k=11\/k=12\/k=13\/k=14\/k=15\/k=16\/k=17\/k=18\/k=19\/k=20\/k=21\/k=22\/k=23\/k=24:=by omega
 rcases h with rfl|rfl|rfl|rfl|rfl|rfl|rfl|rfl|rfl|rfl|rfl|rfl|rfl|rfl|rfl|rfl|rfl|rfl|rfl|rfl|rfl|rfl|rfl|rfl|rfl<;>exact λ_=>by kernel_rfl
structure FirstCalls (s:ByteArray)(d n:Nat):Prop where
 r1:∀W,Calls Tryz.prog 126 #[.string s,.func (.func 195) #[] #[]] W (zdI n W)
 r2:∀W,Calls Tryz.prog 126 #[.string s,.func (.func 160) #[] #[]] W (zdI d W)
theorem zhW (s:ByteArray)(hs:s.size<=4096):FirstCalls s (runB zaE s.data.toList) (runB isWd s.data.toList):=
 ⟨λW=>ze8 _ _ _ zm7 s (by omega) W,λW=>ze8 _ _ _ zod s (by omega) W⟩
/-! the walks: printed by wip/gen_lxfirst.py -/
theorem zdO (s:ByteArray)(d:Nat):(s.extract 0 d).data.toList =s.data.toList.take d:=by
 simp
theorem zhX (s:ByteArray)(w:World)(n:Nat)(hc:FirstCalls s 0 n)(hw:16 < n)(Mr:n<=4096)(hf:zao s.data.toList=(0,0,82)):
  Calls Tryz.prog 128 #[.string s] w (zaS s.data.toList w):=by
 have H1:=hdq hc.r1;have H2:=hdq hc.r2;have Ke:=hdq hf;clear hc hf;have hr:=Blk.new w 164 #[.int .u8 0,.string ⟨#[]⟩,.int .i64 0];have H9:Below w.heap.size w (w.alloc (.cells #[.int .u8 0,.string ⟨#[]⟩,.int .i64 0] 164)):=(Below.refl _ _).alloc (lrq _) _;go_enter Tryz.func128,Tryz.ntmps128;go_wp2_with fail;refine(H1 _).mono ?_;rintro _ w1 ⟨rfl,hb⟩;have hr:=hr.below hb hr.lt;have H9:=H9.trans (hb.mono H9.size);clear hb;go_wp2_with fail;refine(H2 _).mono ?_;rintro _ w2 ⟨rfl,hb⟩;have hr:=hr.below hb hr.lt;have H9:=H9.trans (hb.mono H9.size);clear hb;have c0:=hr.cell 0;have c1:=hr.cell 1;have c2:=hr.cell 2;have f0:=hr.frozen 0;have f1:=hr.frozen 1;have f2:=hr.frozen 2;simp only[getsL]at c0 c1 c2;go_wp2_with fail;have hE:=((hr.set_ 0 (.int .u8 0)).set_ 1 (.string ⟨#[]⟩)).set_ 2 (.int .i64 0);simp only[List.setIfInBounds_toArray,List.set_cons_zero,List.set_cons_succ]at hE;have e0:=hE.cell 0;have e1:=hE.cell 1;have e2:=hE.cell 2;simp only[getsL]at e0 e1 e2;have M4:=((H9.setCell (p:=⟨w.heap.size,0,none⟩) (lrq _) (.int .u8 0)).setCell (p:=⟨w.heap.size,1,none⟩) (lrq _) (.string ⟨#[]⟩)).setCell (p:=⟨w.heap.size,2,none⟩) (lrq _) (.int .i64 0);exact bodyPost_ret (v:= .tuple #[.agg #[.int .u8 0,.string ⟨#[]⟩,.int .i64 0],.int .i64 82]) (by simp[results,Tryz.results128,go_sem,e0,e1,e2]) rfl (zaG Ke.out (n:=0) rfl M4)
theorem zhY (s:ByteArray)(w:World)(n:Nat)(hc:FirstCalls s 0 n)(hw:¬16 < n)(Lm:0 < n)(NC:n<=s.size)(hs:s.size<=4096)(hf:zao s.data.toList=(1,n,0)):
  Calls Tryz.prog 128 #[.string s] w (zaS s.data.toList w):=by
 have H1:=hdq hc.r1;have H2:=hdq hc.r2;have Ke:=hdq hf;clear hc hf;have hr:=Blk.new w 164 #[.int .u8 0,.string ⟨#[]⟩,.int .i64 0];have H9:Below w.heap.size w (w.alloc (.cells #[.int .u8 0,.string ⟨#[]⟩,.int .i64 0] 164)):=(Below.refl _ _).alloc (lrq _) _;go_enter Tryz.func128,Tryz.ntmps128;go_wp2_with fail;refine(H1 _).mono ?_;rintro _ w1 ⟨rfl,hb⟩;have hr:=hr.below hb hr.lt;have H9:=H9.trans (hb.mono H9.size);clear hb;go_wp2_with fail;refine(H2 _).mono ?_;rintro _ w2 ⟨rfl,hb⟩;have hr:=hr.below hb hr.lt;have H9:=H9.trans (hb.mono H9.size);clear hb;have c0:=hr.cell 0;have c1:=hr.cell 1;have c2:=hr.cell 2;have f0:=hr.frozen 0;have f1:=hr.frozen 1;have f2:=hr.frozen 2;simp only[getsL]at c0 c1 c2;go_wp2_with fail;have hE:=((hr.set_ 0 (.int .u8 1)).set_ 1 (.string (s.extract 0 n))).set_ 2 (.int .i64 0);simp only[List.setIfInBounds_toArray,List.set_cons_zero,List.set_cons_succ]at hE;have e0:=hE.cell 0;have e1:=hE.cell 1;have e2:=hE.cell 2;simp only[getsL]at e0 e1 e2;have M4:=((H9.setCell (p:=⟨w.heap.size,0,none⟩) (lrq _) (.int .u8 1)).setCell (p:=⟨w.heap.size,1,none⟩) (lrq _) (.string (s.extract 0 n))).setCell (p:=⟨w.heap.size,2,none⟩) (lrq _) (.int .i64 0);exact bodyPost_ret (v:= .tuple #[.agg #[.int .u8 1,.string (s.extract 0 n),.int .i64 0],.int .i64 0]) (by simp[results,Tryz.results128,go_sem,e0,e1,e2]) rfl (zaG Ke.out (zdO s n) M4)
theorem zi7 {l:List UInt8}{k:Nat}(hk:k < 25)(hp:Lib.hasPrefix l (signL.getD k [])=false)(h:signL.find? (λs=>s.isPrefixOf l)=(signL.drop k).find? (λs=>s.isPrefixOf l)):
  signL.find? (λs=>s.isPrefixOf l)=(signL.drop (k+1)).find? (λs=>s.isPrefixOf l):=by
 have Hl:k < signL.length:=hk;rw[h,List.drop_eq_getElem_cons Hl,List.find?_cons];have:signL.getD k []=signL[k]:=by simp[Hl]
 rw[this]at hp;unfold Lib.hasPrefix at hp;rw[hp]
theorem zi8 {l:List UInt8}{k:Nat}(hk:k < 25)(hp:Lib.hasPrefix l (signL.getD k [])=true)(h:signL.find? (λs=>s.isPrefixOf l)=(signL.drop k).find? (λs=>s.isPrefixOf l)):
  signL.find? (λs=>s.isPrefixOf l)=some (signL.getD k []):=by
 have Hl:k < signL.length:=hk;have:signL.getD k []=signL[k]:=by simp[Hl]
 rw[h,List.drop_eq_getElem_cons Hl,List.find?_cons,this];rw[this]at hp;unfold Lib.hasPrefix at hp;rw[hp]
theorem zhZ (s:ByteArray)(w:World)(hc:FirstCalls s 0 0)(hf:zao s.data.toList=match signL.find? (λx=>x.isPrefixOf s.data.toList)with|some x=>(3,x.length,0)|none=>(0,0,80)):
  Calls Tryz.prog 128 #[.string s] w (zaS s.data.toList w):=by
 have H1:=hdq hc.r1;have H2:=hdq hc.r2;have Ke:=hdq hf;clear hc hf;have hr:=Blk.new w 164 #[.int .u8 0,.string ⟨#[]⟩,.int .i64 0];have H9:Below w.heap.size w (w.alloc (.cells #[.int .u8 0,.string ⟨#[]⟩,.int .i64 0] 164)):=(Below.refl _ _).alloc (lrq _) _;go_enter Tryz.func128,Tryz.ntmps128;go_wp2_with fail;refine(H1 _).mono ?_;rintro _ w1 ⟨rfl,hb⟩;have hr:=hr.below hb hr.lt;have H9:=H9.trans (hb.mono H9.size);clear hb;go_wp2_with fail;refine(H2 _).mono ?_;rintro _ w2 ⟨rfl,hb⟩;have hr:=hr.below hb hr.lt;have H9:=H9.trans (hb.mono H9.size);clear hb;go_wp2_with fail;refine(zi6 _).mono ?_;rintro _ w3 ⟨rfl,hb⟩;have hr:=hr.below hb hr.lt;have H9:=H9.trans (hb.mono H9.size);clear hb;go_wp2_with fail;go_loop [56] (λi=>∃k:Nat,k<=25/\i= .int .i64 k/\Hid (signL.find? (λx=>x.isPrefixOf s.data.toList)=(signL.drop k).find? (λx=>x.isPrefixOf s.data.toList))) (λi=>25 - (intOf i).toNat);case atStart=>exact⟨0,Nat.zero_le _,rfl,rfl⟩
 case round=>
  obtain⟨k,hk,rfl,Kl⟩:=hrel;by_cases Hl:k < 25
  ·have Fi:=znb k Hl;obtain⟨sg,LJ⟩:∃sg:ByteArray,sg=⟨(signL.getD k []).toArray⟩:=⟨_,rfl⟩;have Fu:sg.data.toList=signL.getD k []:=by rw[LJ]
   rw[<-LJ]at Fi;have Hw:=Tryz.strings_HasPrefix s sg w3;rw[Fu]at Hw;have SO:=hdq Fu;clear LJ Fu;cases hp:Lib.hasPrefix s.data.toList (signL.getD k [])
   ·have HN:=hdq (zi7 Hl hp Kl.out);rw[hp]at Hw;have HC:=hdq Hw;clear hp Hw Kl;go_wp2_with fail;refine HC.mono ?_;rintro _ w4 ⟨rfl,rfl⟩;go_wp2_with fail;go_round;case rel=>exact⟨k+1,by omega,by go_num,HN.out⟩
    case measure=>simp[intOf];omega
   ·have HN:=hdq (zi8 Hl hp Kl.out);have HT:Hid (sg.data.toList=s.data.toList.take (signL.getD k []).length):=by
     show _=_
     rw[SO.out];exact List.prefix_iff_eq_take.1 (List.isPrefixOf_iff_prefix.1 hp)
    rw[hp]at Hw;have HC:=hdq Hw;have HF:Hid (zao s.data.toList=(3,(signL.getD k []).length,0)):=by show _=_;rw[Ke.out,HN.out]
    clear hp Hw Kl;have c0:=hr.cell 0;have c1:=hr.cell 1;have c2:=hr.cell 2;have f0:=hr.frozen 0;have f1:=hr.frozen 1;have f2:=hr.frozen 2;simp only[getsL]at c0 c1 c2;go_wp2_with fail;refine HC.mono ?_;rintro _ w4 ⟨rfl,rfl⟩;go_wp2_with fail;have hE:=((hr.set_ 0 (.int .u8 3)).set_ 1 (.string sg)).set_ 2 (.int .i64 0);simp only[List.setIfInBounds_toArray,List.set_cons_zero,List.set_cons_succ]at hE;have e0:=hE.cell 0;have e1:=hE.cell 1;have e2:=hE.cell 2;simp only[getsL]at e0 e1 e2;have M4:=((H9.setCell (p:=⟨w.heap.size,0,none⟩) (lrq _) (.int .u8 3)).setCell (p:=⟨w.heap.size,1,none⟩) (lrq _) (.string sg)).setCell (p:=⟨w.heap.size,2,none⟩) (lrq _) (.int .i64 0);exact bodyPost_ret (v:= .tuple #[.agg #[.int .u8 3,.string sg,.int .i64 0],.int .i64 0]) (by simp[results,Tryz.results128,go_sem,e0,e1,e2]) rfl (zaG HF.out HT.out M4)
  ·have HF:Hid (zao s.data.toList=(0,0,80)):=by
    show _=_
    have h2:=Kl.out;rw[show signL.drop k= []from List.drop_eq_nil_of_le (by show 25<=k;omega)]at h2;rw[Ke.out,h2];rfl
   clear Kl;have c0:=hr.cell 0;have c1:=hr.cell 1;have c2:=hr.cell 2;have f0:=hr.frozen 0;have f1:=hr.frozen 1;have f2:=hr.frozen 2;simp only[getsL]at c0 c1 c2;go_wp2_with fail;have hE:=((hr.set_ 0 (.int .u8 0)).set_ 1 (.string ⟨#[]⟩)).set_ 2 (.int .i64 0);simp only[List.setIfInBounds_toArray,List.set_cons_zero,List.set_cons_succ]at hE;have e0:=hE.cell 0;have e1:=hE.cell 1;have e2:=hE.cell 2;simp only[getsL]at e0 e1 e2;have M4:=((H9.setCell (p:=⟨w.heap.size,0,none⟩) (lrq _) (.int .u8 0)).setCell (p:=⟨w.heap.size,1,none⟩) (lrq _) (.string ⟨#[]⟩)).setCell (p:=⟨w.heap.size,2,none⟩) (lrq _) (.int .i64 0);exact bodyPost_ret (v:= .tuple #[.agg #[.int .u8 0,.string ⟨#[]⟩,.int .i64 0],.int .i64 80]) (by simp[results,Tryz.results128,go_sem,e0,e1,e2]) rfl (zaG HF.out (n:=0) rfl M4)
theorem zi9 (s:ByteArray)(w:World)(d n:Nat)(v:Int)(hc:FirstCalls s d n)(JO:0 < d)(RZ:d<=s.size)(hs:s.size<=4096)(Um:n<=4096)
  (HP:∀W,Calls Tryz.prog 196 #[.string (s.extract 0 d),.int .i64 10,.int .i64 64] W λe w'=>e= .returned (.tuple #[.int .i64 v,.nilIface])/\Below W.heap.size W w')
  (HI:∀W,Below w.heap.size w W->Calls Tryz.prog 197 #[.int .i64 v,.int .i64 10] W λe w'=>e= .returned (.string (s.extract 0 d))/\Below W.heap.size W w')
  (Hl:decide (d < n)=false) (hf:zao s.data.toList=(2,d,0)):
  Calls Tryz.prog 128 #[.string s] w (zaS s.data.toList w):=by
 have H1:=hdq hc.r1;have H2:=hdq hc.r2;have Ke:=hdq hf;have SP:=hdq HP;have U0:=hdq HI;clear hc hf HP HI;have hr:=Blk.new w 164 #[.int .u8 0,.string ⟨#[]⟩,.int .i64 0];have H9:Below w.heap.size w (w.alloc (.cells #[.int .u8 0,.string ⟨#[]⟩,.int .i64 0] 164)):=(Below.refl _ _).alloc (lrq _) _;go_enter Tryz.func128,Tryz.ntmps128;go_wp2_with fail;refine(H1 _).mono ?_;rintro _ w1 ⟨rfl,hb⟩;have hr:=hr.below hb hr.lt;have H9:=H9.trans (hb.mono H9.size);clear hb;go_wp2_with fail;refine(H2 _).mono ?_;rintro _ w2 ⟨rfl,hb⟩;have hr:=hr.below hb hr.lt;have H9:=H9.trans (hb.mono H9.size);clear hb;go_wp2_with fail;refine(SP _).mono ?_;rintro _ w3 ⟨rfl,hb⟩;have hr:=hr.below hb hr.lt;have H9:=H9.trans (hb.mono H9.size);clear hb;have C:=hdq (λ(W:World)(h:Below w3.heap.size w3 W)=>(U0 W (H9.trans (h.mono H9.size))).mono λx w' h2=>show x= .returned (.string (s.extract 0 d))/\Below w3.heap.size w3 w' from⟨h2.1,h.trans (h2.2.mono h.size)⟩);have hS:Below w3.heap.size w3 w3.drew:=(Below.refl _ _).drew;have U1:Nonempty (HeldW (Below w3.heap.size w3)):=⟨⟨_,hS⟩⟩;have HR:=hdq hr;have QV:=hdq H9;clear hr H9;go_wp2_with fail;refine zbx (Below w3.heap.size w3) hS (by kernel_rfl) (by kernel_rfl) ?_
 repeat(go_big_quiet_step ((go_at_call 197;exact zdL C.out)))
 refine wpQuiet_nil ?_;intro _ U2;obtain⟨z,rfl⟩:=U2;have hr:=HR.below z.h HR.lt;have H9:=QV.trans (z.h.mono QV.size);have c0:=hr.cell 0;have c1:=hr.cell 1;have c2:=hr.cell 2;have f0:=hr.frozen 0;have f1:=hr.frozen 1;have f2:=hr.frozen 2;simp only[getsL]at c0 c1 c2;go_wp2_with fail;have hE:=((hr.set_ 0 (.int .u8 2)).set_ 1 (.string (s.extract 0 d))).set_ 2 (.int .i64 0);simp only[List.setIfInBounds_toArray,List.set_cons_zero,List.set_cons_succ]at hE;have e0:=hE.cell 0;have e1:=hE.cell 1;have e2:=hE.cell 2;simp only[getsL]at e0 e1 e2;have M4:=((H9.setCell (p:=⟨w.heap.size,0,none⟩) (lrq _) (.int .u8 2)).setCell (p:=⟨w.heap.size,1,none⟩) (lrq _) (.string (s.extract 0 d))).setCell (p:=⟨w.heap.size,2,none⟩) (lrq _) (.int .i64 0);exact bodyPost_ret (v:= .tuple #[.agg #[.int .u8 2,.string (s.extract 0 d),.int .i64 0],.int .i64 0]) (by simp[results,Tryz.results128,go_sem,e0,e1,e2]) rfl (zaG Ke.out (zdO s d) M4)
theorem zh0 (s:ByteArray)(w:World)(d n:Nat)(v:Int)(hc:FirstCalls s d n)(JO:0 < d)(RZ:d<=s.size)(hs:s.size<=4096)(Um:n<=4096)
  (HP:∀W,Calls Tryz.prog 196 #[.string (s.extract 0 d),.int .i64 10,.int .i64 64] W λe w'=>e= .returned (.tuple #[.int .i64 v,.nilIface])/\Below W.heap.size W w')
  (HI:∀W,Below w.heap.size w W->Calls Tryz.prog 197 #[.int .i64 v,.int .i64 10] W λe w'=>e= .returned (.string (s.extract 0 d))/\Below W.heap.size W w')
  (Hl:decide (d < n)=true) (hf:zao s.data.toList=(0,0,81)):
  Calls Tryz.prog 128 #[.string s] w (zaS s.data.toList w):=by
 have H1:=hdq hc.r1;have H2:=hdq hc.r2;have Ke:=hdq hf;have SP:=hdq HP;have U0:=hdq HI;clear hc hf HP HI;have hr:=Blk.new w 164 #[.int .u8 0,.string ⟨#[]⟩,.int .i64 0];have H9:Below w.heap.size w (w.alloc (.cells #[.int .u8 0,.string ⟨#[]⟩,.int .i64 0] 164)):=(Below.refl _ _).alloc (lrq _) _;go_enter Tryz.func128,Tryz.ntmps128;go_wp2_with fail;refine(H1 _).mono ?_;rintro _ w1 ⟨rfl,hb⟩;have hr:=hr.below hb hr.lt;have H9:=H9.trans (hb.mono H9.size);clear hb;go_wp2_with fail;refine(H2 _).mono ?_;rintro _ w2 ⟨rfl,hb⟩;have hr:=hr.below hb hr.lt;have H9:=H9.trans (hb.mono H9.size);clear hb;go_wp2_with fail;refine(SP _).mono ?_;rintro _ w3 ⟨rfl,hb⟩;have hr:=hr.below hb hr.lt;have H9:=H9.trans (hb.mono H9.size);clear hb;have C:=hdq (λ(W:World)(h:Below w3.heap.size w3 W)=>(U0 W (H9.trans (h.mono H9.size))).mono λx w' h2=>show x= .returned (.string (s.extract 0 d))/\Below w3.heap.size w3 w' from⟨h2.1,h.trans (h2.2.mono h.size)⟩);have hS:Below w3.heap.size w3 w3.drew:=(Below.refl _ _).drew;have U1:Nonempty (HeldW (Below w3.heap.size w3)):=⟨⟨_,hS⟩⟩;have HR:=hdq hr;have QV:=hdq H9;clear hr H9;go_wp2_with fail;refine zbx (Below w3.heap.size w3) hS (by kernel_rfl) (by kernel_rfl) ?_
 repeat(go_big_quiet_step ((go_at_call 197;exact zdL C.out)))
 refine wpQuiet_nil ?_;intro _ U2;obtain⟨z,rfl⟩:=U2;have hr:=HR.below z.h HR.lt;have H9:=QV.trans (z.h.mono QV.size);have c0:=hr.cell 0;have c1:=hr.cell 1;have c2:=hr.cell 2;have f0:=hr.frozen 0;have f1:=hr.frozen 1;have f2:=hr.frozen 2;simp only[getsL]at c0 c1 c2;go_wp2_with fail;have hE:=((hr.set_ 0 (.int .u8 0)).set_ 1 (.string ⟨#[]⟩)).set_ 2 (.int .i64 0);simp only[List.setIfInBounds_toArray,List.set_cons_zero,List.set_cons_succ]at hE;have e0:=hE.cell 0;have e1:=hE.cell 1;have e2:=hE.cell 2;simp only[getsL]at e0 e1 e2;have M4:=((H9.setCell (p:=⟨w.heap.size,0,none⟩) (lrq _) (.int .u8 0)).setCell (p:=⟨w.heap.size,1,none⟩) (lrq _) (.string ⟨#[]⟩)).setCell (p:=⟨w.heap.size,2,none⟩) (lrq _) (.int .i64 0);exact bodyPost_ret (v:= .tuple #[.agg #[.int .u8 0,.string ⟨#[]⟩,.int .i64 0],.int .i64 81]) (by simp[results,Tryz.results128,go_sem,e0,e1,e2]) rfl (zaG Ke.out (n:=0) rfl M4)
theorem zh1 (s:ByteArray)(w:World)(d n:Nat)(v:Int)(t:ByteArray)(ht:(t.toList==(s.extract 0 d).toList)=false)(hc:FirstCalls s d n)(JO:0 < d)(RZ:d<=s.size)(hs:s.size<=4096)(Um:n<=4096)
  (HP:∀W,Calls Tryz.prog 196 #[.string (s.extract 0 d),.int .i64 10,.int .i64 64] W λe w'=>e= .returned (.tuple #[.int .i64 v,.nilIface])/\Below W.heap.size W w')
  (HI:∀W,Below w.heap.size w W->Calls Tryz.prog 197 #[.int .i64 v,.int .i64 10] W λe w'=>e= .returned (.string t)/\Below W.heap.size W w')
  (hf:zao s.data.toList=(0,0,81)):
  Calls Tryz.prog 128 #[.string s] w (zaS s.data.toList w):=by
 have H1:=hdq hc.r1;have H2:=hdq hc.r2;have Ke:=hdq hf;have SP:=hdq HP;have U0:=hdq HI;clear hc hf HP HI;have hr:=Blk.new w 164 #[.int .u8 0,.string ⟨#[]⟩,.int .i64 0];have H9:Below w.heap.size w (w.alloc (.cells #[.int .u8 0,.string ⟨#[]⟩,.int .i64 0] 164)):=(Below.refl _ _).alloc (lrq _) _;go_enter Tryz.func128,Tryz.ntmps128;go_wp2_with fail;refine(H1 _).mono ?_;rintro _ w1 ⟨rfl,hb⟩;have hr:=hr.below hb hr.lt;have H9:=H9.trans (hb.mono H9.size);clear hb;go_wp2_with fail;refine(H2 _).mono ?_;rintro _ w2 ⟨rfl,hb⟩;have hr:=hr.below hb hr.lt;have H9:=H9.trans (hb.mono H9.size);clear hb;go_wp2_with fail;refine(SP _).mono ?_;rintro _ w3 ⟨rfl,hb⟩;have hr:=hr.below hb hr.lt;have H9:=H9.trans (hb.mono H9.size);clear hb;have C:=hdq (λ(W:World)(h:Below w3.heap.size w3 W)=>(U0 W (H9.trans (h.mono H9.size))).mono λx w' h2=>show x= .returned (.string t)/\Below w3.heap.size w3 w' from⟨h2.1,h.trans (h2.2.mono h.size)⟩);have hS:Below w3.heap.size w3 w3.drew:=(Below.refl _ _).drew;have U1:Nonempty (HeldW (Below w3.heap.size w3)):=⟨⟨_,hS⟩⟩;have HR:=hdq hr;have QV:=hdq H9;clear hr H9;go_wp2_with fail;refine zbx (Below w3.heap.size w3) hS (by kernel_rfl) (by kernel_rfl) ?_
 repeat(go_big_quiet_step ((go_at_call 197;exact zdL C.out)))
 refine wpQuiet_nil ?_;intro _ U2;obtain⟨z,rfl⟩:=U2;have hr:=HR.below z.h HR.lt;have H9:=QV.trans (z.h.mono QV.size);have c0:=hr.cell 0;have c1:=hr.cell 1;have c2:=hr.cell 2;have f0:=hr.frozen 0;have f1:=hr.frozen 1;have f2:=hr.frozen 2;simp only[getsL]at c0 c1 c2;go_wp2_with fail;have hE:=((hr.set_ 0 (.int .u8 0)).set_ 1 (.string ⟨#[]⟩)).set_ 2 (.int .i64 0);simp only[List.setIfInBounds_toArray,List.set_cons_zero,List.set_cons_succ]at hE;have e0:=hE.cell 0;have e1:=hE.cell 1;have e2:=hE.cell 2;simp only[getsL]at e0 e1 e2;have M4:=((H9.setCell (p:=⟨w.heap.size,0,none⟩) (lrq _) (.int .u8 0)).setCell (p:=⟨w.heap.size,1,none⟩) (lrq _) (.string ⟨#[]⟩)).setCell (p:=⟨w.heap.size,2,none⟩) (lrq _) (.int .i64 0);exact bodyPost_ret (v:= .tuple #[.agg #[.int .u8 0,.string ⟨#[]⟩,.int .i64 0],.int .i64 81]) (by simp[results,Tryz.results128,go_sem,e0,e1,e2]) rfl (zaG Ke.out (n:=0) rfl M4)
theorem zh2 (s:ByteArray)(w:World)(d n:Nat)(hc:FirstCalls s d n)(JO:0 < d)(RZ:d<=s.size)(hs:s.size<=4096)(Um:n<=4096)(hf:zao s.data.toList=(0,0,81))
  (HP:∀W,Below w.heap.size w W->Calls Tryz.prog 196 #[.string (s.extract 0 d),.int .i64 10,.int .i64 64] W λe w'=>∃m t p,e= .returned (.tuple #[.int .i64 m,.iface t p])/\Below W.heap.size W w'):
  Calls Tryz.prog 128 #[.string s] w (zaS s.data.toList w):=by
 have H1:=hdq hc.r1;have H2:=hdq hc.r2;have Ke:=hdq hf;have SP:=hdq HP;clear hc hf HP;have hr:=Blk.new w 164 #[.int .u8 0,.string ⟨#[]⟩,.int .i64 0];have H9:Below w.heap.size w (w.alloc (.cells #[.int .u8 0,.string ⟨#[]⟩,.int .i64 0] 164)):=(Below.refl _ _).alloc (lrq _) _;go_enter Tryz.func128,Tryz.ntmps128;go_wp2_with fail;refine(H1 _).mono ?_;rintro _ w1 ⟨rfl,hb⟩;have hr:=hr.below hb hr.lt;have H9:=H9.trans (hb.mono H9.size);clear hb;go_wp2_with fail;refine(H2 _).mono ?_;rintro _ w2 ⟨rfl,hb⟩;have hr:=hr.below hb hr.lt;have H9:=H9.trans (hb.mono H9.size);clear hb;go_wp2_with fail;refine(SP _ H9).mono ?_;rintro _ w3 ⟨m,t,p,rfl,hb⟩;have hr:=hr.below hb hr.lt;have H9:=H9.trans (hb.mono H9.size);clear hb;go_wp2_with fail
 go_quiet (fail)
 have M5:∀k,Blk (w3.drewN k) w.heap.size 164 #[.int .u8 0,.string ⟨#[]⟩,.int .i64 0]/\Below w.heap.size w (w3.drewN k):=λk=>⟨hr,below_drewN H9 k⟩;generalize Fb:w3.drewN _=w4;have h5:Blk w4 w.heap.size 164 #[.int .u8 0,.string ⟨#[]⟩,.int .i64 0]/\Below w.heap.size w w4:=by rw[<-Fb];exact M5 _
 clear Fb M5 hr H9;obtain⟨hr,H9⟩:=h5;have c0:=hr.cell 0;have c1:=hr.cell 1;have c2:=hr.cell 2;have f0:=hr.frozen 0;have f1:=hr.frozen 1;have f2:=hr.frozen 2;simp only[getsL]at c0 c1 c2;go_wp2_with fail;have hE:=((hr.set_ 0 (.int .u8 0)).set_ 1 (.string ⟨#[]⟩)).set_ 2 (.int .i64 0);simp only[List.setIfInBounds_toArray,List.set_cons_zero,List.set_cons_succ]at hE;have e0:=hE.cell 0;have e1:=hE.cell 1;have e2:=hE.cell 2;simp only[getsL]at e0 e1 e2;have M4:=((H9.setCell (p:=⟨w.heap.size,0,none⟩) (lrq _) (.int .u8 0)).setCell (p:=⟨w.heap.size,1,none⟩) (lrq _) (.string ⟨#[]⟩)).setCell (p:=⟨w.heap.size,2,none⟩) (lrq _) (.int .i64 0);exact bodyPost_ret (v:= .tuple #[.agg #[.int .u8 0,.string ⟨#[]⟩,.int .i64 0],.int .i64 81]) (by simp[results,Tryz.results128,go_sem,e0,e1,e2]) rfl (zaG Ke.out (n:=0) rfl M4)
theorem zh3 {l:List UInt8}(h:0 < runB zaE l):zao l=if(numB (l.take (runB zaE l))&& !decide (runB zaE l < runB isWd l))=true then(2,runB zaE l,0)else(0,0,81):=by
 unfold zao;rw[if_pos h]
theorem zgG {l:List UInt8}(h:¬0 < runB zaE l):zao l=if 16 < runB isWd l then((0:Int),0,(82:Int))else if 0 < runB isWd l then((1:Int),runB isWd l,(0:Int))else match signL.find? (λx=>x.isPrefixOf l)with|some x=>((3:Int),x.length,(0:Int))|none=>((0:Int),0,(80:Int)):=by
 unfold zao;rw[if_neg h];rfl
theorem zja (s:ByteArray)(hs:s.size<=4096)(w:World)(he:LexEnv w):Calls Tryz.prog 128 #[.string s] w (zaS s.data.toList w):=by
 have hc:=zhW s hs;have Ht:s.data.toList.length=s.size:=by simp
 have XH:=zbT zaE s.data.toList;have Un:=zbT isWd s.data.toList;by_cases JO:0 < runB zaE s.data.toList
 ·have hf:=zh3 JO;obtain⟨d,hd⟩:=nmq (runB zaE s.data.toList);obtain⟨n,hn⟩:=nmq (runB isWd s.data.toList);have PA:=zcD s.data.toList;rw[<-hd]at PA JO hf hc XH;rw[<-hn]at hf hc Un;have hG:=zdO s d;have RZ:d<=s.size:=by omega
  have Gc:s.data.toList.take d≠ []:=by
   intro e;have:=congrArg List.length e;rw[List.length_take,List.length_nil]at this;omega
  rw[<-hG]at PA Gc hf;have hH:(s.extract 0 d).size <=4096:=by
   have:(s.extract 0 d).data.toList.length =(s.extract 0 d).size :=by simp
   rw[hG]at this;have h2:(s.data.toList.take d).length <=d:=List.length_take_le _ _;omega
  by_cases hv:decV (s.extract 0 d).data.toList <=9223372036854775807
  ·have hP:∀W,Calls Tryz.prog 196 #[.string (s.extract 0 d),.int .i64 10,.int .i64 64] W λe w'=>e= .returned (.tuple #[.int .i64 (decV (s.extract 0 d).data.toList),.nilIface])/\Below W.heap.size W w':=λW=>
    zm9 (s.extract 0 d) hH PA Gc hv W
   have hI:∀W,Below w.heap.size w W->Calls Tryz.prog 197 #[.int .i64 (decV (s.extract 0 d).data.toList),.int .i64 10] W λe w'=>e= .returned (.string ⟨(Lib.itoa (decV (s.extract 0 d).data.toList :Int)).toArray⟩)/\Below W.heap.size W w':=λW h=>
    zli _ hv W (he.keep h)
   have FA:=zi2 (s.extract 0 d).data.toList PA Gc;have Lu:numB (s.extract 0 d).data.toList =((s.extract 0 d).data.toList.length ==1 || !((s.extract 0 d).data.toList.head? ==some 48)):=by
    unfold numB;rw[decide_eq_true hv,Bool.and_true]
   rw[Lu,<-FA]at hf;cases hz:(Lib.itoa (decV (s.extract 0 d).data.toList :Int)==(s.extract 0 d).data.toList)
   ·rw[hz]at hf;rw[if_neg (by simp)]at hf;exact zh1 s w d n _ ⟨(Lib.itoa (decV (s.extract 0 d).data.toList :Int)).toArray⟩ (by rw[ByteArray.toList_mk,ByteArray.toList_eq];exact hz) hc JO RZ hs (by omega) hP hI hf
   ·have e:(⟨(Lib.itoa (decV (s.extract 0 d).data.toList :Int)).toArray⟩:ByteArray)=s.extract 0 d:=by
     rw[eq_of_beq hz]
    rw[e]at hI;rw[hz]at hf;cases hl:decide (d < n)
    ·rw[hl]at hf;rw[if_pos (by simp)]at hf;exact zi9 s w d n _ hc JO RZ hs (by omega) hP hI hl hf
    ·rw[hl]at hf;rw[if_neg (by simp)]at hf;exact zh0 s w d n _ hc JO RZ hs (by omega) hP hI hl hf
  ·have Lu:numB (s.extract 0 d).data.toList =false:=by unfold numB;rw[decide_eq_false hv,Bool.and_false]
   rw[Lu]at hf;rw[if_neg (by simp)]at hf;exact zh2 s w d n hc JO RZ hs (by omega) hf λW h=>zna (s.extract 0 d) hH PA Gc hv W (he.keep h)
 ·have h0:runB zaE s.data.toList=0:=by omega
  have hf:=zgG JO;rw[h0]at hc;by_cases hw:16 < runB isWd s.data.toList
  ·rw[if_pos hw]at hf;exact zhX s w _ hc hw (by omega) hf
  ·rw[if_neg hw]at hf;by_cases Lm:0 < runB isWd s.data.toList
   ·rw[if_pos Lm]at hf;exact zhY s w _ hc hw Lm (by omega) hs hf
   ·rw[if_neg Lm]at hf;have h1:runB isWd s.data.toList=0:=by omega
    rw[h1]at hc;exact zhZ s w hc hf
/-! tokens in memory -/
def tkC (t:Tk):List Value:= [.int .u8 t.kind,.string ⟨t.text.toArray⟩,.int .i64 t.at_]
def zdP (r:List Tk×Nat×Int)(W:World)(e:Ending)(w':World):Prop:=
 ∃v,e= .returned (.tuple #[v,.int .i64 r.2.1,.int .i64 r.2.2])/\w'.ownsRow W.heap.size 164 3 v r.1.length (r.1.flatMap tkC)/\Below W.heap.size W w'
theorem zc0 {r q:List Tk×Nat×Int}{W w':World}{v:Value}(h:r=q)(ho:w'.ownsRow W.heap.size 164 3 v q.1.length (q.1.flatMap tkC))(hb:Below W.heap.size W w'):
  zdP r W (.returned (.tuple #[v,.int .i64 q.2.1,.int .i64 q.2.2])) w':=by subst h;exact⟨v,rfl,ho,hb⟩
def zfS (acc:List Tk)(r:List Tk×Nat×Int):List Tk×Nat×Int:=if r.2.2=0 then(acc++r.1,0,0)else r
theorem znc {l:List UInt8}{p f:Nat}(h:(l.drop (p+runB zbt (l.drop p))).length =0)(hf:0 < f):za6 f (l.drop p) p=([],0,0):=by
 obtain⟨g,rfl⟩:∃g,f=g+1:=⟨f - 1,by omega⟩;rw[za6];simp only[List.drop_drop];rw[if_pos h]
theorem znd {l:List UInt8}{p f:Nat}(h:¬(l.drop (p+runB zbt (l.drop p))).length =0)(hf:0 < f)(he:¬(zao (l.drop (p+runB zbt (l.drop p)))).2.2 =0):
  za6 f (l.drop p) p=([],p+runB zbt (l.drop p),(zao (l.drop (p+runB zbt (l.drop p)))).2.2):=by
 obtain⟨g,rfl⟩:∃g,f=g+1:=⟨f - 1,by omega⟩;rw[za6];simp only[List.drop_drop];rw[if_neg h,if_neg he]
theorem zoh {l:List UInt8}{p b n:Nat}{k:Int}{acc:List Tk}(hb:b=runB zbt (l.drop p))(h:¬(l.drop (p+b)).length =0)(he:zao (l.drop (p+b))=(k,n,0))(hp:p<=l.length)
  {R:List Tk×Nat×Int} (hR:R=zfS acc (za6 (l.length+1 - p) (l.drop p) p)):
  R=zfS (acc++ [{kind:=k,text:=(l.drop (p+b)).take n,at_:=p+b}]) (za6 (l.length+1 - (p+b+n)) (l.drop (p+b+n)) (p+b+n)):=by
 have hn:0 < n:=by have:=zb9 (l:=l.drop (p+b)) (by rw[he]);rw[he]at this;exact this
 have hle:n<=(l.drop (p+b)).length :=by have:=zcC (l:=l.drop (p+b));rw[he]at this;exact this
 have Jh:p+b < l.length:=by simp only[List.length_drop]at h;omega
 rw[List.length_drop]at hle;obtain⟨g,hg⟩:∃g,l.length+1 - p=g+1:=⟨l.length - p,by omega⟩;have e:za6 (l.length+1 - p) (l.drop p) p=if(za6 (l.length+1 - (p+b+n)) (l.drop (p+b+n)) (p+b+n)).2.2 =0 then({kind:=k,text:=(l.drop (p+b)).take n,at_:=p+b}::(za6 (l.length+1 - (p+b+n)) (l.drop (p+b+n)) (p+b+n)).1,0,0)else za6 (l.length+1 - (p+b+n)) (l.drop (p+b+n)) (p+b+n):=by
  rw[hg,za6];simp only[List.drop_drop,<-hb];rw[if_neg h];simp only[he];rw[if_pos trivial];have jS:=zez g (l.length+1 - (p+b+n)) (l.drop (p+b+n)) (p+b+n) (by rw[List.length_drop];omega) (by rw[List.length_drop];omega);rw[jS]
 rw[hR,e];unfold zfS;by_cases h2:(za6 (l.length+1 - (p+b+n)) (l.drop (p+b+n)) (p+b+n)).2.2 =0
 ·rw[if_pos h2,if_pos rfl,if_pos h2];simp
 ·rw[if_neg h2,if_neg h2,if_neg h2]
theorem zfT (s:ByteArray)(p:Nat):(s.extract p s.size).data.toList =s.data.toList.drop p:=by
 simp;exact List.take_of_length_le (by simp)
theorem zmC:(Tryz.prog.info? 164).map (λi=>(i.zero,i.size,i.bytes))=some (some (.agg #[.int .u8 0,.string ⟨#[]⟩,.int .i64 0]),3,32):=by kernel_rfl
theorem zgH (s:ByteArray)(w:World)(h:4096 < s.size)(hs:s.size<=9223372036854775807):Calls Tryz.prog 61 #[.string s] w (zdP (toks s.data.toList) w):=by
 have hr:toks s.data.toList=([],0,3):=by unfold toks;rw[if_pos (by rw[zbJ];exact h)]
 have HR:=hdq hr;have h2:decide (4096 < (s.size:Int))=true:=by simp;omega
 clear hr;go_enter Tryz.func61,Tryz.ntmps61;go_wp2
 go_ret3
 exact zc0 HR.out (World.ownsRow_nil _ _ _ _) (Below.refl _ _)
theorem zlj:∀(f:Nat)(l:List UInt8)(p:Nat),(za6 f l p).2.2 =0->(za6 f l p).2.1 =0
 |0,_,_,_=>rfl
 |f+1,l,p,h=>by
  rw[za6]at h ⊢;simp only at h ⊢;split
  ·rfl
  ·rename_i h1;rw[if_neg h1]at h;split
   ·rename_i h2;rw[if_pos h2]at h;split
    ·rfl
    ·rename_i h3;rw[if_neg h3]at h;exact absurd h h3
   ·rename_i h2;rw[if_neg h2]at h;exact absurd h h2
theorem zfU (s:ByteArray)(w:World)(hs:s.size<=4096)(he:LexEnv w):Calls Tryz.prog 61 #[.string s] w (zdP (toks s.data.toList) w):=by
 have hr:toks s.data.toList=zfS [] (za6 (s.data.toList.length+1 - 0) (s.data.toList.drop 0) 0):=by
  unfold toks;rw[if_neg (by rw[zbJ];omega)];unfold zfS;by_cases h:(za6 (s.data.toList.length+1) s.data.toList 0).2.2 =0
  ·rw[if_pos (by simpa using h)];have h2:=zlj _ _ _ h;simp only[Nat.sub_zero,List.drop_zero,List.nil_append];rw[Prod.ext_iff,Prod.ext_iff];exact⟨rfl,h2,h⟩
  ·rw[if_neg (by simpa using h)];simp
 have HR:=hdq hr;have HE:=hdq he;clear hr he;obtain⟨i0,hi,Jb,Hy,FR⟩:=info_parts zmC;go_enter Tryz.func61,Tryz.ntmps61;go_wp2;go_loopw [2,3] (λv2 v3 wr=>∃(p:Nat)(acc:List Tk),p<=s.size/\v3= .int .i64 p/\acc.length<=p/\wr.ownsRow w.heap.size 164 3 v2 acc.length (acc.flatMap tkC)/\Below w.heap.size w wr/\Hid (toks s.data.toList=zfS acc (za6 (s.data.toList.length+1 - p) (s.data.toList.drop p) p))) (λ_ v3 _=>s.size - (intOf v3).toNat);case atStart=>exact⟨0, [],Nat.zero_le _,rfl,Nat.zero_le _,World.ownsRow_nil _ _ _ _,Below.refl _ _,HR.out⟩
 case round=>
  obtain⟨p,acc,hp,rfl,hJ,Hb,hb,hR⟩:=hrel;have hlen:=zbJ s;have GH:∀W,Calls Tryz.prog 126 #[.string (s.extract p s.size),.func (.func 127) #[] #[]] W (zdI (runB zbt (s.data.toList.drop p)) W):=λW=>by
   have:=ze8 _ _ _ zoe (s.extract p s.size) (by simp;omega) W;rw[zfT]at this;exact this
  obtain⟨b,WW⟩:=nmq (runB zbt (s.data.toList.drop p));have Ll:p+b<=s.size:=by
   have:=zbT zbt (s.data.toList.drop p);rw[<-WW,List.length_drop]at this;omega
  rw[<-WW]at GH;have NU:=hdq GH;have QW:=hdq WW;have HO:=hdq Hb;have HB:=hdq hb;have HL:=hdq hlen;clear GH WW Hb hb hlen;go_wp2_with fail;refine(NU _).mono ?_;rintro _ w1 ⟨rfl,Gw⟩;have Hb:=HO.kept (zcE Gw none) (by rcases Option.eq_none_or_eq_some u2.ownBlock with h|⟨_,h⟩<;>simp[h]);have U3:=HB.trans (Gw.mono HB.size);have hO:=hdq Hb;have Gs:=hdq U3;clear Hb U3 Gw HO HB;by_cases NV:p+b=s.size
  ·have Ja:toks s.data.toList=(acc,0,0):=by
    rw[hR.out,znc (by rw[<-QW.out,List.length_drop,HL.out];omega) (by rw[HL.out];omega)];simp[zfS]
   have HF:=hdq Ja;have e1:((↑p+ ↑b:Int)== ↑s.size)=true:=by simp;omega
   clear Ja hR;go_wp2_with fail
   go_ret3
   exact zc0 HF.out hO.out Gs.out
  ·have e1:((↑p+ ↑b:Int)== ↑s.size)=false:=by simp;omega
   have Gc:¬(s.data.toList.drop (p+b)).length =0:=by rw[List.length_drop,HL.out];omega
   have Uo:=zja (s.extract (p+b) s.size) (by simp;omega) w1 (HE.keep Gs.out);rw[zfT]at Uo;have SQ:=zcC (l:=s.data.toList.drop (p+b));obtain⟨⟨k,n,er⟩,hq⟩:=nmq (zao (s.data.toList.drop (p+b)));unfold zaS at Uo;rw[<-hq]at Uo SQ;simp only at Uo SQ;rw[List.length_drop,HL.out]at SQ;have HC:=hdq Uo;have HQ:=hdq hq;have Ky:=hdq Gc;clear Uo hq Gc NV;go_wp2_with fail;refine HC.mono ?_;rintro _ w2 ⟨tx,LY,rfl,GP⟩;have NW:tx.size=n:=by
    have:=congrArg List.length LY;rw[List.length_take,List.length_drop,HL.out,zbJ]at this;omega
   have Hb:=hO.kept (zcE GP none) (by rcases Option.eq_none_or_eq_some u2.ownBlock with h|⟨_,h⟩<;>simp[h]);have U3:=Gs.trans (GP.mono Gs.size);have Hl:=Hb.lt;have jT:=hdq Hb;have Lv:=hdq U3;have XI:=hdq Hl;have jU:=hdq (zob LY);obtain rfl:n=tx.size:=NW.symm;clear Hb U3 GP LY NW Hl HC;by_cases PB:er=0
   ·subst PB;have GX:(acc.length+1)*32<=140737488355328:=by omega
    go_wp2_with (at_builtin;refine wpList_append_own _ rfl _ _ 157 rfl w.heap.size 164 i0 (.agg #[.int .u8 0,.string ⟨#[]⟩,.int .i64 0]) 3 32 Tryz.underlying157 hi Jb Hy FR rfl (by decide) _ _ _ rfl ((jT.alloc _).alloc _) ⟨w2.heap.size+1,0,none⟩ 1 1 [.int .u8 k,.string tx,.int .i64 (↑p+ ↑b)] rfl rfl ?c1 ?c2 ?c3 ?c4 ?c5 ?_);case c1=>
     intro j u hj
     match j,hj with
     |0,hj=>simp at hj;subst hj;simp[Addr.add]
     |1,hj=>simp at hj;subst hj;simp[Addr.add]
     |2,hj=>simp at hj;subst hj;simp[Addr.add]
    case c2=>
     intro u hu;simp only[List.mem_cons,List.not_mem_nil,or_false]at hu;rcases hu with rfl|rfl|rfl<;>rfl
    case c3=>unfold maxLen;omega
    case c4=>exact GX
    case c5=>simp;have:=Lv.size;omega
    intro v' w3 R0 Hd _;obtain⟨tk,Me⟩:∃tk:Tk,tk={kind:=k,text:=(s.data.toList.drop (p+b)).take tx.size,at_:=p+b}:=⟨_,rfl⟩;have vL:0 < tx.size:=by have:=zb9 (l:=s.data.toList.drop (p+b)) (by rw[<-HQ.out]);rw[<-HQ.out]at this;exact this
    have Kr:w3.cell? ⟨w2.heap.size,1,none⟩=some (.string tx):=by
     refine(World.cell?_of_block (Hd.block w2.heap.size (by simp;omega) (λe=>?_))).trans (by simp);have:=XI w2.heap.size e.symm;omega
    have hZ:Below w.heap.size w w3:=((Lv.alloc Lv.size _).alloc (by simp;have:=Lv.size;omega) _).grown Hd (by simp;have:=Lv.size;omega) (λg hg=>(XI g hg).1);have Pn:=zoh QW.out Ky.out HQ.symm (by rw[HL.out];exact hp) hR.out;rw[<-Me]at Pn;have R9:w3.ownsRow w.heap.size 164 3 v' (acc++ [tk]).length ((acc++ [tk]).flatMap tkC):=by
     rw[List.flatMap_append,List.length_append];have e:([tk]:List Tk).flatMap tkC= [.int .u8 k,.string tx,.int .i64 (↑p+ ↑b)]:=by
      rw[Me];simp only[List.flatMap_cons,List.flatMap_nil,List.append_nil,tkC,<-jU.out];rw[show(((p+b:Nat):Int))= ↑p+ ↑b from by omega]
     rw[e];exact R0
    have HG:=hdq Pn;have jV:=hdq R9;have ND:=hdq hZ;clear R0 Hd Pn R9 hZ hR Me;go_wp2_with fail;go_roundw;case rel=>exact⟨p+b+tx.size,acc++ [tk],by omega,by go_num,by rw[List.length_append];simp;omega,jV.out,ND.out,HG.out⟩
    case measure=>simp[intOf];omega
   ·have e2:(er != 0)=true:=by simpa using PB
    have Ja:toks s.data.toList=([],p+b,er):=by
     have h0:=Ky.out;rw[hR.out,znd (by rw[<-QW.out];exact h0) (by rw[HL.out];omega) (by rw[<-QW.out,<-HQ.out];exact PB),<-QW.out,<-HQ.out];simp[zfS,PB]
    have hP:∀W,Below w.heap.size w W->zdP (toks s.data.toList) w (.returned (.tuple #[.slice none 0 0,.int .i64 (↑p+ ↑b),.int .i64 er])) W:=λW h=>by
     have:=zc0 (v:= .slice none 0 0) Ja (World.ownsRow_nil W w.heap.size 164 3) h;rw[show(((p+b:Nat):Int))= ↑p+ ↑b from by omega]at this;exact this
    have HP:=hdq hP;clear hP Ja PB;go_wp2_with fail
    go_ret3
    exact HP _ (Lv.alloc Lv.size _)
structure NameEnv (w:World):Prop where
 lex:LexEnv w
 sp:Lib.TabIs Tryz.prog w "strings.asciiSpace" .u8 Lib.asciiSpaceTab
theorem NameEnv.keep {w w':World}(h:NameEnv w)(hb:Below w.heap.size w w'):NameEnv w':=
 ⟨h.lex.keep hb,by have:=h.sp;unfold Lib.TabIs at this ⊢;exact zdz hb this⟩
theorem NameEnv.toSp {w:World}(h:NameEnv w):SpEnv w:=⟨h.sp⟩
theorem zlk (s:ByteArray)(hs:s.size<=9223372036854775807)(w:World)(he:NameEnv w):Calls Tryz.prog 91 #[.string s] w λe w'=>e= .returned (.bool (zbj s.data.toList))/\Below w.heap.size w w':=zdM s hs w he.toSp
theorem zh4 (s:ByteArray)(hs:s.size<=9223372036854775807)(w:World)(he:LexEnv w):Calls Tryz.prog 61 #[.string s] w (zdP (toks s.data.toList) w):=by
 by_cases h:4096 < s.size
 ·exact zgH s w h hs
 ·exact zfU s w (by omega) he
