/- lex. -/
import Derived.Test.YtfomomaomggpbaaGreatDoorJnLxF
import Derived.Test.YtfomomaomggpbaaGreatDoorJgBase
import Derived.Test.YtfomomaomggpbaaGreatDoorShelf
import Derived.Test.YtfomomaomggpbaaGreatDoorJgLxNum
set_option linter.all false
set_option maxHeartbeats 3200000
set_option maxRecDepth 100000
namespace Go.Proofs.YtfomomaomggpbaaGreatDoor
open Go.RowKit Go.Shelf
def kwB:List UInt8:= [118,97,114,32,97,114,114,97,121,32,112,114,111,99,32,109,97,105,110,32,115,107,105,112,32,105,110,112,117,116,32,97,115,115,117,109,101]++ [32,97,115,115,101,114,116,32,105,102,32,101,108,115,101,32,119,104,105,108,101,32,99,97,108,108,32,116,114,117,101,32,102,97,108,115,101]
def kwL:List (List UInt8):= [[118,97,114], [97,114,114,97,121], [112,114,111,99], [109,97,105,110], [115,107,105,112], [105,110,112,117,116], [97,115,115,117,109,101], [97,115,115,101,114,116], [105,102], [101,108,115,101], [119,104,105,108,101], [99,97,108,108], [116,114,117,101], [102,97,108,115,101]]
theorem zjZ:Lib.fields kwB=kwL:=by decide+kernel
theorem zmo:kwB.all (λb=>decide (b.toNat < 128))=true:=by decide+kernel
def keyB (l:List UInt8):Bool:=kwL.contains l
def zbk (l:List UInt8):Bool:=(runB isWd l==l.length)&&decide (0 < runB isWd l)&&decide (runB isWd l<=16)&& !(zaD (l.headD 0))&& !keyB l
structure SpEnv (w:World):Prop where
 sp:Lib.TabIs Tryz.prog w "strings.asciiSpace" .u8 Lib.asciiSpaceTab
theorem SpEnv.keep {w w':World}(h:SpEnv w)(hb:Below w.heap.size w w'):SpEnv w':=
 ⟨by have:=h.sp;unfold Lib.TabIs at this ⊢;exact zdO hb this⟩
theorem zgn (s:ByteArray):Lib.containsS (kwL.map λl=>(⟨l.toArray⟩:ByteArray)) s=keyB s.data.toList:=by
 unfold keyB;rw[Bool.eq_iff_iff,Lib.containsS_iff,List.contains_iff_mem,List.mem_map];constructor
 ·rintro⟨l,hl,rfl⟩;exact hl
 ·intro h;exact⟨_,h,(zpD rfl).symm⟩
theorem zeZ (s:ByteArray)(w:World)(he:SpEnv w):Calls Tryz.prog 161 #[.string s] w λe w'=>e= .returned (.bool (keyB s.data.toList))/\Below w.heap.size w w':=by
 have h1:=Tryz.strings_Fields ⟨kwB.toArray⟩ w (by decide+kernel) (λj b hj=>by
  have:=List.all_eq_true.1 zmo b (List.mem_of_getElem? hj);simpa using this) he.sp
 have h2:=Tryz.slices_Contains_string w.heap.size 0 14 14 (kwL.map λl=>(⟨l.toArray⟩:ByteArray)) s (w.alloc (.cells ((kwL).map λl=>Value.string ⟨l.toArray⟩).toArray 9)) (by decide) (by decide) (λj hj=>by
  have qC:j < kwL.length:=by simpa using hj
  rw[Nat.zero_add,zos];simp[qC])
 rw[List.take_of_length_le (by decide),zgn]at h2;simp only[show(⟨kwB.toArray⟩:ByteArray).data.toList =kwB from rfl]at h1;rw[zjZ]at h1;have hl:kwL.length=14:=rfl;rw[hl]at h1;have H1:=aA h1;have H2:=aA h2;clear h1 h2 hl;go_enter Tryz.func161,Tryz.ntmps161;go_wp2_with fail;refine H1.mono ?_;rintro _ w1 ⟨rfl,rfl⟩;go_wp2_with fail;refine H2.mono ?_;rintro _ w1 ⟨rfl,rfl⟩;go_wp2_with fail;go_ret;exact⟨rfl,(Below.refl _ _).alloc (aL _) _⟩
theorem zd1 (s:ByteArray)(hs:s.size<=9223372036854775807)(w:World)(he:SpEnv w):Calls Tryz.prog 91 #[.string s] w λe w'=>e= .returned (.bool (zbk s.data.toList))/\Below w.heap.size w w':=by
 have h1:Calls Tryz.prog 126 #[.string s,.func (.func 158) #[] #[]] w (zdX (runB isWd s.data.toList) w):=zfC _ _ _ zoq s hs w;have hle:=zb0 isWd s.data.toList;rw[zbQ]at hle;obtain⟨n,hn⟩:=aF (runB isWd s.data.toList);rw[<-hn]at h1 hle;have H1:=aA h1;have HE:=aA he;have Mv:zbk s.data.toList=((n==s.size)&&decide (0 < n)&&decide (n<=16)&& !(zaD (s.data.toList.headD 0))&& !keyB s.data.toList):=by unfold zbk;rw[<-hn,zbQ]
 have Kl:=aA Mv;clear h1 he hn Mv;by_cases c1:n=s.size
 ·by_cases c2:0 < n
  ·by_cases c3:n<=16
   ·have hp:0 < s.size:=by omega
    have hb:=zjT s 0 hp;obtain⟨b,F3⟩:=aF (s[0]);have hh:s.data.toList.headD 0=b:=by
     rw[<-F3]at hb;cases hl:s.data.toList with
     |nil=>rw[hl]at hb;simp at hb
     |cons a r=>rw[hl]at hb;simpa using hb
    have e1:((n:Int)==(s.size:Int))=true:=by simp;omega
    have e2:decide ((0:Int) < (n:Int))=true:=by simp;omega
    have Hk:=UInt8.toNat_lt (s[0]'hp);have Fk:=zml (s[0]'hp);rw[<-F3]at Fk;have HH:=aA hh;cases hd:zaD b
    ·rw[hd]at Fk;have U2:∀W:World,Calls Tryz.prog 160 #[.int .i32 ((s[0]'hp).toNat :Int)] W λe w'=>e= .returned (.bool false)/\W=w':=λW=>by
      have:=zb1 ((s[0]'hp).toNat :Int) W;rw[<-F3,Fk]at this;rw[<-F3];exact this
     have HD:=aA U2;cases hk:keyB s.data.toList
     ·have HF:Hid (zbk s.data.toList=true):=by show _=_;rw[Kl.out,HH.out,hd,hk];simp[c1,c2,c3];omega
      have VL:∀W,Below w.heap.size w W->Calls Tryz.prog 161 #[.string s] W λe w'=>e= .returned (.bool false)/\Below W.heap.size W w':=λW h=>by
       have:=zeZ s W (HE.keep h);rw[hk]at this;exact this
      have HK:=aA VL;clear hd Fk U2 hk VL hb F3 hh;go_enter Tryz.func91,Tryz.ntmps91;go_wp2_with fail;refine H1.mono ?_;rintro _ w1 ⟨rfl,hb⟩;go_wp2_with fail;refine(HD _).mono ?_;rintro _ w2 ⟨rfl,rfl⟩;go_wp2_with fail;refine(HK _ hb).mono ?_;rintro _ w2 ⟨rfl,G2⟩;go_wp2_with fail;go_ret;exact⟨by rw[HF.out];rfl,hb.trans (G2.mono hb.size)⟩
     ·have HF:Hid (zbk s.data.toList=false):=by show _=_;rw[Kl.out,hk];simp
      have VL:∀W,Below w.heap.size w W->Calls Tryz.prog 161 #[.string s] W λe w'=>e= .returned (.bool true)/\Below W.heap.size W w':=λW h=>by
       have:=zeZ s W (HE.keep h);rw[hk]at this;exact this
      have HK:=aA VL;clear hd Fk U2 hk VL hb F3 hh;go_enter Tryz.func91,Tryz.ntmps91;go_wp2_with fail;refine H1.mono ?_;rintro _ w1 ⟨rfl,hb⟩;go_wp2_with fail;refine(HD _).mono ?_;rintro _ w2 ⟨rfl,rfl⟩;go_wp2_with fail;refine(HK _ hb).mono ?_;rintro _ w2 ⟨rfl,G2⟩;go_wp2_with fail;go_ret;exact⟨by rw[HF.out];rfl,hb.trans (G2.mono hb.size)⟩
    ·rw[hd]at Fk;have U2:∀W:World,Calls Tryz.prog 160 #[.int .i32 ((s[0]'hp).toNat :Int)] W λe w'=>e= .returned (.bool true)/\W=w':=λW=>by
      have:=zb1 ((s[0]'hp).toNat :Int) W;rw[<-F3,Fk]at this;rw[<-F3];exact this
     have HD:=aA U2;have HF:Hid (zbk s.data.toList=false):=by show _=_;rw[Kl.out,HH.out,hd];simp
     clear hd Fk U2 hb F3 hh;go_enter Tryz.func91,Tryz.ntmps91;go_wp2_with fail;refine H1.mono ?_;rintro _ w1 ⟨rfl,hb⟩;go_wp2_with fail;refine(HD _).mono ?_;rintro _ w2 ⟨rfl,rfl⟩;go_wp2_with fail;go_ret;exact⟨by rw[HF.out];rfl,hb⟩
   ·have HF:Hid (zbk s.data.toList=false):=by show _=_;rw[Kl.out];simp[c3]
    have e1:((n:Int)==(s.size:Int))=true:=by simp;omega
    have e2:decide ((0:Int) < (n:Int))=true:=by simp;omega
    have e3:decide ((n:Int)<=16)=false:=by simp;omega
    clear c1;go_enter Tryz.func91,Tryz.ntmps91;go_wp2_with fail;refine H1.mono ?_;rintro _ w1 ⟨rfl,hb⟩;go_wp2_with fail;go_ret;exact⟨by rw[HF.out];rfl,hb⟩
  ·have HF:Hid (zbk s.data.toList=false):=by show _=_;rw[Kl.out];simp[c2]
   have e1:((n:Int)==(s.size:Int))=true:=by simp;omega
   have e2:decide ((0:Int) < (n:Int))=false:=by simp;omega
   clear c1;go_enter Tryz.func91,Tryz.ntmps91;go_wp2_with fail;refine H1.mono ?_;rintro _ w1 ⟨rfl,hb⟩;go_wp2_with fail;go_ret;exact⟨by rw[HF.out];rfl,hb⟩
 ·have HF:Hid (zbk s.data.toList=false):=by show _=_;rw[Kl.out];simp[c1]
  have e1:((n:Int)==(s.size:Int))=false:=by simp;omega
  clear c1;go_enter Tryz.func91,Tryz.ntmps91;go_wp2_with fail;refine H1.mono ?_;rintro _ w1 ⟨rfl,hb⟩;go_wp2_with fail;go_ret;exact⟨by rw[HF.out];rfl,hb⟩
structure LexEnv (w:World):Prop where
 er:∃tp p,w.var? Tryz.prog "strconv.ErrRange" =some #[.iface tp p]
 tab:Lib.TabIs Tryz.prog w "internal/strconv.uint64pow10" .u64 Lib.pow10Tab
theorem LexEnv.keep {w w':World}(h:LexEnv w)(hb:Below w.heap.size w w'):LexEnv w':=by
 obtain⟨tp,p,he⟩:=h.er;exact⟨⟨tp,p,zdO hb he⟩,by have:=h.tab;unfold Lib.TabIs at this ⊢;exact zdO hb this⟩
theorem zd2 (w:World)(e:TypeId)(t:ByteArray):Below w.heap.size w (Lib.bytesWorld w e t):=Go.Joins.below_bytesWorld _ _ _ _ (aL _)
theorem ziJ (w:World)(k:Nat)(os:Array Obj):Below w.heap.size w (Go.Sort.grow (w.drewN k) os):=by
 refine⟨rfl,rfl,rfl,by simp[Go.Sort.grow],λi hi=>?_⟩;show(w.heap++os)[i]?=w.heap[i]?
 rw[Array.getElem?_append_left hi]
theorem zot (s:ByteArray)(hs:s.size<=4096)(hd:zb2 s.data.toList)(hn:s.data.toList≠ [])(hv:decV s.data.toList<=9223372036854775807)(w:World):
  Calls Tryz.prog 196 #[.string s,.int .i64 10,.int .i64 64] w λe w'=>e= .returned (.tuple #[.int .i64 (decV s.data.toList),.nilIface])/\Below w.heap.size w w':=by
 refine(Tryz.strconv_ParseInt_10_at64_ok s (by omega) (decV s.data.toList) (by rw[zdy _ hd hn,if_pos hv]) w).mono ?_;rintro e w' ⟨rfl,h⟩;refine⟨rfl,?_⟩;rcases h with rfl|⟨t,rfl⟩
 ·exact Below.refl _ _
 ·exact zd2 _ _ _
theorem zou (s:ByteArray)(hs:s.size<=4096)(hd:zb2 s.data.toList)(hn:s.data.toList≠ [])(hv:¬decV s.data.toList<=9223372036854775807)(w:World)(he:LexEnv w):
  Calls Tryz.prog 196 #[.string s,.int .i64 10,.int .i64 64] w λe w'=>∃n t p,e= .returned (.tuple #[.int .i64 n,.iface t p])/\Below w.heap.size w w':=by
 obtain⟨tp,p,Tt⟩:=he.er;refine(Tryz.strconv_ParseInt_10_at64_range_var s (by omega) (by rw[zdy _ hd hn,if_neg hv]) tp p w Tt).mono ?_;rintro e w' ⟨N,rfl,_,_,hb⟩;exact⟨_,_,_,rfl,hb⟩
theorem zmp (n:Nat)(hn:n<=9223372036854775807)(w:World)(he:LexEnv w):
  Calls Tryz.prog 197 #[.int .i64 n,.int .i64 10] w λe w'=>e= .returned (.string ⟨(Lib.itoa (n:Int)).toArray⟩)/\Below w.heap.size w w':=by
 refine(Tryz.strconv_FormatInt_10 (n:Int) (by omega) (by omega) w he.tab).mono ?_;rintro e w' ⟨rfl,k,os,rfl⟩;exact⟨rfl,ziJ _ _ _⟩
def Blk (w:World)(g:Nat)(t:TypeId)(cs:Array Value):Prop:=w.heap[g]?=some (.cells cs t (0,0))
theorem Blk.cell {w:World}{g:Nat}{t:TypeId}{cs:Array Value}(h:Blk w g t cs)(i:Nat):w.cell? ⟨g,i,none⟩=cs[i]?:=cell_of_row w g i cs t (0,0) h
theorem Blk.frozen {w:World}{g:Nat}{t:TypeId}{cs:Array Value}(h:Blk w g t cs)(i:Nat):w.frozen? ⟨g,i,none⟩=false:=by
 unfold Blk at h;simp[World.frozen?,h]
theorem Blk.new (w:World)(t:TypeId)(cs:Array Value):Blk (w.alloc (.cells cs t)) w.heap.size t cs:=heap_alloc_new w _
theorem Blk.lt {w:World}{g:Nat}{t:TypeId}{cs:Array Value}(h:Blk w g t cs):g < w.heap.size:=by
 rcases Nat.lt_or_ge g w.heap.size with Hk|G9
 ·exact Hk
 ·unfold Blk at h;rw[Array.getElem?_eq_none G9]at h;cases h
theorem Blk.set_ {w:World}{g:Nat}{t:TypeId}{cs:Array Value}(h:Blk w g t cs)(i:Nat)(u:Value):Blk (w.setCell ⟨g,i,none⟩ u) g t (cs.setIfInBounds i u):=by
 unfold Blk at h ⊢;simp[World.setCell,Array.getElem?_modify,h]
theorem Blk.below {w w':World}{B g:Nat}{t:TypeId}{cs:Array Value}(h:Blk w g t cs)(hb:Below B w w')(hg:g < B):Blk w' g t cs:=(hb.block g hg).trans h
def zaT (l:List UInt8)(W:World)(e:Ending)(w':World):Prop:=
 ∃tx:ByteArray,tx.data.toList=l.take (zap l).2.1 /\e= .returned (.tuple #[.agg #[.int .u8 (zap l).1,.string tx,.int .i64 0],.int .i64 (zap l).2.2])/\Below W.heap.size W w'
theorem zaF {l:List UInt8}{W w':World}{tx:ByteArray}{k er:Int}{n:Nat}(h:zap l=(k,n,er))(ht:tx.data.toList=l.take n)(hb:Below W.heap.size W w'):
  zaT l W (.returned (.tuple #[.agg #[.int .u8 k,.string tx,.int .i64 0],.int .i64 er])) w':=
 ⟨tx,by rw[h];exact ht,by rw[h],hb⟩
def zpI:Value:= .agg (signL.map λs=>Value.string ⟨s.toArray⟩).toArray
theorem zj0 (w:World):Calls Tryz.prog 198 #[] w λe w'=>e= .returned zpI/\Below w.heap.size w w':=by
 go_enter Tryz.func198,Tryz.ntmps198;go_wp2_with (first|(refine wpList_build rfl 292 _ rfl (by kernel_rfl) ?_)|(refine wpList_store_row rfl 292 _ _ rfl w.heap.size _ rfl rfl 292 _ (heap_alloc_new _ _) (by kernel_rfl) (by kernel_rfl) (by kernel_rfl) ?_));exact bodyPost_ret (results_cell_row (p:=0) (ty:=292) rfl _ _ w.heap.size 292 _ (0,0) _ rfl (setRow_heap _ _ _ _ _ _ (heap_alloc_new _ _)) Tryz.underlying292 rfl (by kernel_rfl)) rfl ⟨by kernel_rfl,zbx ((Below.refl _ _).alloc (aL _) _) (aL _) _⟩
theorem zov (k:Nat)(hk:k < 25):∀w,(Instr.index 292 zpI (.int .i64 k)).run Tryz.prog w= .ok (.string ⟨(signL.getD k []).toArray⟩) w:=by
 have h:k=0\/k=1\/k=2\/k=3\/k=4\/k=5\/k=6\/k=7\/k=8\/k=9\/k=10\/k=11\/k=12\/k=13\/k=14\/k=15\/k=16\/k=17\/k=18\/k=19\/k=20\/k=21\/k=22\/k=23\/k=24:=by omega
 rcases h with rfl|rfl|rfl|rfl|rfl|rfl|rfl|rfl|rfl|rfl|rfl|rfl|rfl|rfl|rfl|rfl|rfl|rfl|rfl|rfl|rfl|rfl|rfl|rfl|rfl<;>exact λ_=>by kernel_rfl
structure FirstCalls (s:ByteArray)(d n:Nat):Prop where
 r1:∀W,Calls Tryz.prog 126 #[.string s,.func (.func 195) #[] #[]] W (zdX n W)
 r2:∀W,Calls Tryz.prog 126 #[.string s,.func (.func 160) #[] #[]] W (zdX d W)
theorem ziK (s:ByteArray)(hs:s.size<=4096):FirstCalls s (runB zaD s.data.toList) (runB isWd s.data.toList):=
 ⟨λW=>zfC _ _ _ zor s (by omega) W,λW=>zfC _ _ _ zpF s (by omega) W⟩
/-! the walks: printed by wip/gen_lxfirst.py -/
theorem zd3 (s:ByteArray)(d:Nat):(s.extract 0 d).data.toList =s.data.toList.take d:=by
 simp
theorem ziL (s:ByteArray)(w:World)(n:Nat)(hc:FirstCalls s 0 n)(hw:16 < n)(JT:n<=4096)(hf:zap s.data.toList=(0,0,82)):
  Calls Tryz.prog 128 #[.string s] w (zaT s.data.toList w):=by
 have H1:=aA hc.r1;have H2:=aA hc.r2;have J8:=aA hf;clear hc hf;have hr:=Blk.new w 164 #[.int .u8 0,.string ⟨#[]⟩,.int .i64 0];have Gd:Below w.heap.size w (w.alloc (.cells #[.int .u8 0,.string ⟨#[]⟩,.int .i64 0] 164)):=(Below.refl _ _).alloc (aL _) _;go_enter Tryz.func128,Tryz.ntmps128;go_wp2_with fail;refine(H1 _).mono ?_;rintro _ w1 ⟨rfl,hb⟩;have hr:=hr.below hb hr.lt;have Gd:=Gd.trans (hb.mono Gd.size);clear hb;go_wp2_with fail;refine(H2 _).mono ?_;rintro _ w2 ⟨rfl,hb⟩;have hr:=hr.below hb hr.lt;have Gd:=Gd.trans (hb.mono Gd.size);clear hb;have c0:=hr.cell 0;have c1:=hr.cell 1;have c2:=hr.cell 2;have f0:=hr.frozen 0;have f1:=hr.frozen 1;have f2:=hr.frozen 2;simp only[aD]at c0 c1 c2;go_wp2_with fail;have hE:=((hr.set_ 0 (.int .u8 0)).set_ 1 (.string ⟨#[]⟩)).set_ 2 (.int .i64 0);simp only[List.setIfInBounds_toArray,List.set_cons_zero,List.set_cons_succ]at hE;have e0:=hE.cell 0;have e1:=hE.cell 1;have e2:=hE.cell 2;simp only[aD]at e0 e1 e2;have No:=((Gd.setCell (p:=⟨w.heap.size,0,none⟩) (aL _) (.int .u8 0)).setCell (p:=⟨w.heap.size,1,none⟩) (aL _) (.string ⟨#[]⟩)).setCell (p:=⟨w.heap.size,2,none⟩) (aL _) (.int .i64 0);exact bodyPost_ret (v:= .tuple #[.agg #[.int .u8 0,.string ⟨#[]⟩,.int .i64 0],.int .i64 82]) (by simp[results,Tryz.results128,go_sem,e0,e1,e2]) rfl (zaF J8.out (n:=0) rfl No)
theorem ziM (s:ByteArray)(w:World)(n:Nat)(hc:FirstCalls s 0 n)(hw:¬16 < n)(LM:0 < n)(NX:n<=s.size)(hs:s.size<=4096)(hf:zap s.data.toList=(1,n,0)):
  Calls Tryz.prog 128 #[.string s] w (zaT s.data.toList w):=by
 have H1:=aA hc.r1;have H2:=aA hc.r2;have J8:=aA hf;clear hc hf;have hr:=Blk.new w 164 #[.int .u8 0,.string ⟨#[]⟩,.int .i64 0];have Gd:Below w.heap.size w (w.alloc (.cells #[.int .u8 0,.string ⟨#[]⟩,.int .i64 0] 164)):=(Below.refl _ _).alloc (aL _) _;go_enter Tryz.func128,Tryz.ntmps128;go_wp2_with fail;refine(H1 _).mono ?_;rintro _ w1 ⟨rfl,hb⟩;have hr:=hr.below hb hr.lt;have Gd:=Gd.trans (hb.mono Gd.size);clear hb;go_wp2_with fail;refine(H2 _).mono ?_;rintro _ w2 ⟨rfl,hb⟩;have hr:=hr.below hb hr.lt;have Gd:=Gd.trans (hb.mono Gd.size);clear hb;have c0:=hr.cell 0;have c1:=hr.cell 1;have c2:=hr.cell 2;have f0:=hr.frozen 0;have f1:=hr.frozen 1;have f2:=hr.frozen 2;simp only[aD]at c0 c1 c2;go_wp2_with fail;have hE:=((hr.set_ 0 (.int .u8 1)).set_ 1 (.string (s.extract 0 n))).set_ 2 (.int .i64 0);simp only[List.setIfInBounds_toArray,List.set_cons_zero,List.set_cons_succ]at hE;have e0:=hE.cell 0;have e1:=hE.cell 1;have e2:=hE.cell 2;simp only[aD]at e0 e1 e2;have No:=((Gd.setCell (p:=⟨w.heap.size,0,none⟩) (aL _) (.int .u8 1)).setCell (p:=⟨w.heap.size,1,none⟩) (aL _) (.string (s.extract 0 n))).setCell (p:=⟨w.heap.size,2,none⟩) (aL _) (.int .i64 0);exact bodyPost_ret (v:= .tuple #[.agg #[.int .u8 1,.string (s.extract 0 n),.int .i64 0],.int .i64 0]) (by simp[results,Tryz.results128,go_sem,e0,e1,e2]) rfl (zaF J8.out (zd3 s n) No)
theorem zj1 {l:List UInt8}{k:Nat}(hk:k < 25)(hp:Lib.hasPrefix l (signL.getD k [])=false)(h:signL.find? (λs=>s.isPrefixOf l)=(signL.drop k).find? (λs=>s.isPrefixOf l)):
  signL.find? (λs=>s.isPrefixOf l)=(signL.drop (k+1)).find? (λs=>s.isPrefixOf l):=by
 have Hk:k < signL.length:=hk;rw[h,List.drop_eq_getElem_cons Hk,List.find?_cons];have:signL.getD k []=signL[k]:=by simp[Hk]
 rw[this]at hp;unfold Lib.hasPrefix at hp;rw[hp]
theorem zj2 {l:List UInt8}{k:Nat}(hk:k < 25)(hp:Lib.hasPrefix l (signL.getD k [])=true)(h:signL.find? (λs=>s.isPrefixOf l)=(signL.drop k).find? (λs=>s.isPrefixOf l)):
  signL.find? (λs=>s.isPrefixOf l)=some (signL.getD k []):=by
 have Hk:k < signL.length:=hk;have:signL.getD k []=signL[k]:=by simp[Hk]
 rw[h,List.drop_eq_getElem_cons Hk,List.find?_cons,this];rw[this]at hp;unfold Lib.hasPrefix at hp;rw[hp]
theorem ziN (s:ByteArray)(w:World)(hc:FirstCalls s 0 0)(hf:zap s.data.toList=match signL.find? (λx=>x.isPrefixOf s.data.toList)with|some x=>(3,x.length,0)|none=>(0,0,80)):
  Calls Tryz.prog 128 #[.string s] w (zaT s.data.toList w):=by
 have H1:=aA hc.r1;have H2:=aA hc.r2;have J8:=aA hf;clear hc hf;have hr:=Blk.new w 164 #[.int .u8 0,.string ⟨#[]⟩,.int .i64 0];have Gd:Below w.heap.size w (w.alloc (.cells #[.int .u8 0,.string ⟨#[]⟩,.int .i64 0] 164)):=(Below.refl _ _).alloc (aL _) _;go_enter Tryz.func128,Tryz.ntmps128;go_wp2_with fail;refine(H1 _).mono ?_;rintro _ w1 ⟨rfl,hb⟩;have hr:=hr.below hb hr.lt;have Gd:=Gd.trans (hb.mono Gd.size);clear hb;go_wp2_with fail;refine(H2 _).mono ?_;rintro _ w2 ⟨rfl,hb⟩;have hr:=hr.below hb hr.lt;have Gd:=Gd.trans (hb.mono Gd.size);clear hb;go_wp2_with fail;refine(zj0 _).mono ?_;rintro _ w3 ⟨rfl,hb⟩;have hr:=hr.below hb hr.lt;have Gd:=Gd.trans (hb.mono Gd.size);clear hb;go_wp2_with fail;go_loop [56] (λi=>∃k:Nat,k<=25/\i= .int .i64 k/\Hid (signL.find? (λx=>x.isPrefixOf s.data.toList)=(signL.drop k).find? (λx=>x.isPrefixOf s.data.toList))) (λi=>25 - (intOf i).toNat);case atStart=>exact⟨0,Nat.zero_le _,rfl,rfl⟩
 case round=>
  obtain⟨k,hk,rfl,JH⟩:=hrel;by_cases Hk:k < 25
  ·have FD:=zov k Hk;obtain⟨sg,L6⟩:∃sg:ByteArray,sg=⟨(signL.getD k []).toArray⟩:=⟨_,rfl⟩;have Gq:sg.data.toList=signL.getD k []:=by rw[L6]
   rw[<-L6]at FD;have H9:=Tryz.strings_HasPrefix s sg w3;rw[Gq]at H9;have Pf:=aA Gq;clear L6 Gq;cases hp:Lib.hasPrefix s.data.toList (signL.getD k [])
   ·have HN:=aA (zj1 Hk hp JH.out);rw[hp]at H9;have HC:=aA H9;clear hp H9 JH;go_wp2_with fail;refine HC.mono ?_;rintro _ w4 ⟨rfl,rfl⟩;go_wp2_with fail;go_round;case rel=>exact⟨k+1,by omega,by go_num,HN.out⟩
    case measure=>simp[intOf];omega
   ·have HN:=aA (zj2 Hk hp JH.out);have HT:Hid (sg.data.toList=s.data.toList.take (signL.getD k []).length):=by
     show _=_
     rw[Pf.out];exact List.prefix_iff_eq_take.1 (List.isPrefixOf_iff_prefix.1 hp)
    rw[hp]at H9;have HC:=aA H9;have HF:Hid (zap s.data.toList=(3,(signL.getD k []).length,0)):=by show _=_;rw[J8.out,HN.out]
    clear hp H9 JH;have c0:=hr.cell 0;have c1:=hr.cell 1;have c2:=hr.cell 2;have f0:=hr.frozen 0;have f1:=hr.frozen 1;have f2:=hr.frozen 2;simp only[aD]at c0 c1 c2;go_wp2_with fail;refine HC.mono ?_;rintro _ w4 ⟨rfl,rfl⟩;go_wp2_with fail;have hE:=((hr.set_ 0 (.int .u8 3)).set_ 1 (.string sg)).set_ 2 (.int .i64 0);simp only[List.setIfInBounds_toArray,List.set_cons_zero,List.set_cons_succ]at hE;have e0:=hE.cell 0;have e1:=hE.cell 1;have e2:=hE.cell 2;simp only[aD]at e0 e1 e2;have No:=((Gd.setCell (p:=⟨w.heap.size,0,none⟩) (aL _) (.int .u8 3)).setCell (p:=⟨w.heap.size,1,none⟩) (aL _) (.string sg)).setCell (p:=⟨w.heap.size,2,none⟩) (aL _) (.int .i64 0);exact bodyPost_ret (v:= .tuple #[.agg #[.int .u8 3,.string sg,.int .i64 0],.int .i64 0]) (by simp[results,Tryz.results128,go_sem,e0,e1,e2]) rfl (zaF HF.out HT.out No)
  ·have HF:Hid (zap s.data.toList=(0,0,80)):=by
    show _=_
    have h2:=JH.out;rw[show signL.drop k= []from List.drop_eq_nil_of_le (by show 25<=k;omega)]at h2;rw[J8.out,h2];rfl
   clear JH;have c0:=hr.cell 0;have c1:=hr.cell 1;have c2:=hr.cell 2;have f0:=hr.frozen 0;have f1:=hr.frozen 1;have f2:=hr.frozen 2;simp only[aD]at c0 c1 c2;go_wp2_with fail;have hE:=((hr.set_ 0 (.int .u8 0)).set_ 1 (.string ⟨#[]⟩)).set_ 2 (.int .i64 0);simp only[List.setIfInBounds_toArray,List.set_cons_zero,List.set_cons_succ]at hE;have e0:=hE.cell 0;have e1:=hE.cell 1;have e2:=hE.cell 2;simp only[aD]at e0 e1 e2;have No:=((Gd.setCell (p:=⟨w.heap.size,0,none⟩) (aL _) (.int .u8 0)).setCell (p:=⟨w.heap.size,1,none⟩) (aL _) (.string ⟨#[]⟩)).setCell (p:=⟨w.heap.size,2,none⟩) (aL _) (.int .i64 0);exact bodyPost_ret (v:= .tuple #[.agg #[.int .u8 0,.string ⟨#[]⟩,.int .i64 0],.int .i64 80]) (by simp[results,Tryz.results128,go_sem,e0,e1,e2]) rfl (zaF HF.out (n:=0) rfl No)
theorem zj3 (s:ByteArray)(w:World)(d n:Nat)(v:Int)(hc:FirstCalls s d n)(J9:0 < d)(SP:d<=s.size)(hs:s.size<=4096)(U3:n<=4096)
  (HP:∀W,Calls Tryz.prog 196 #[.string (s.extract 0 d),.int .i64 10,.int .i64 64] W λe w'=>e= .returned (.tuple #[.int .i64 v,.nilIface])/\Below W.heap.size W w')
  (HI:∀W,Below w.heap.size w W->Calls Tryz.prog 197 #[.int .i64 v,.int .i64 10] W λe w'=>e= .returned (.string (s.extract 0 d))/\Below W.heap.size W w')
  (Hk:decide (d < n)=false) (hf:zap s.data.toList=(2,d,0)):
  Calls Tryz.prog 128 #[.string s] w (zaT s.data.toList w):=by
 have H1:=aA hc.r1;have H2:=aA hc.r2;have J8:=aA hf;have Tv:=aA HP;have VM:=aA HI;clear hc hf HP HI;have hr:=Blk.new w 164 #[.int .u8 0,.string ⟨#[]⟩,.int .i64 0];have Gd:Below w.heap.size w (w.alloc (.cells #[.int .u8 0,.string ⟨#[]⟩,.int .i64 0] 164)):=(Below.refl _ _).alloc (aL _) _;go_enter Tryz.func128,Tryz.ntmps128;go_wp2_with fail;refine(H1 _).mono ?_;rintro _ w1 ⟨rfl,hb⟩;have hr:=hr.below hb hr.lt;have Gd:=Gd.trans (hb.mono Gd.size);clear hb;go_wp2_with fail;refine(H2 _).mono ?_;rintro _ w2 ⟨rfl,hb⟩;have hr:=hr.below hb hr.lt;have Gd:=Gd.trans (hb.mono Gd.size);clear hb;go_wp2_with fail;refine(Tv _).mono ?_;rintro _ w3 ⟨rfl,hb⟩;have hr:=hr.below hb hr.lt;have Gd:=Gd.trans (hb.mono Gd.size);clear hb;have C:=aA (λ(W:World)(h:Below w3.heap.size w3 W)=>(VM W (Gd.trans (h.mono Gd.size))).mono λx w' h2=>show x= .returned (.string (s.extract 0 d))/\Below w3.heap.size w3 w' from⟨h2.1,h.trans (h2.2.mono h.size)⟩);have hS:Below w3.heap.size w3 w3.drew:=(Below.refl _ _).drew;have VN:Nonempty (HeldW (Below w3.heap.size w3)):=⟨⟨_,hS⟩⟩;have HR:=aA hr;have Rv:=aA Gd;clear hr Gd;go_wp2_with fail;refine zbA (Below w3.heap.size w3) hS (by kernel_rfl) (by kernel_rfl) ?_
 repeat(go_big_quiet_step ((go_at_call 197;exact zdY C.out)))
 refine wpQuiet_nil ?_;intro _ VO;obtain⟨z,rfl⟩:=VO;have hr:=HR.below z.h HR.lt;have Gd:=Rv.trans (z.h.mono Rv.size);have c0:=hr.cell 0;have c1:=hr.cell 1;have c2:=hr.cell 2;have f0:=hr.frozen 0;have f1:=hr.frozen 1;have f2:=hr.frozen 2;simp only[aD]at c0 c1 c2;go_wp2_with fail;have hE:=((hr.set_ 0 (.int .u8 2)).set_ 1 (.string (s.extract 0 d))).set_ 2 (.int .i64 0);simp only[List.setIfInBounds_toArray,List.set_cons_zero,List.set_cons_succ]at hE;have e0:=hE.cell 0;have e1:=hE.cell 1;have e2:=hE.cell 2;simp only[aD]at e0 e1 e2;have No:=((Gd.setCell (p:=⟨w.heap.size,0,none⟩) (aL _) (.int .u8 2)).setCell (p:=⟨w.heap.size,1,none⟩) (aL _) (.string (s.extract 0 d))).setCell (p:=⟨w.heap.size,2,none⟩) (aL _) (.int .i64 0);exact bodyPost_ret (v:= .tuple #[.agg #[.int .u8 2,.string (s.extract 0 d),.int .i64 0],.int .i64 0]) (by simp[results,Tryz.results128,go_sem,e0,e1,e2]) rfl (zaF J8.out (zd3 s d) No)
theorem ziO (s:ByteArray)(w:World)(d n:Nat)(v:Int)(hc:FirstCalls s d n)(J9:0 < d)(SP:d<=s.size)(hs:s.size<=4096)(U3:n<=4096)
  (HP:∀W,Calls Tryz.prog 196 #[.string (s.extract 0 d),.int .i64 10,.int .i64 64] W λe w'=>e= .returned (.tuple #[.int .i64 v,.nilIface])/\Below W.heap.size W w')
  (HI:∀W,Below w.heap.size w W->Calls Tryz.prog 197 #[.int .i64 v,.int .i64 10] W λe w'=>e= .returned (.string (s.extract 0 d))/\Below W.heap.size W w')
  (Hk:decide (d < n)=true) (hf:zap s.data.toList=(0,0,81)):
  Calls Tryz.prog 128 #[.string s] w (zaT s.data.toList w):=by
 have H1:=aA hc.r1;have H2:=aA hc.r2;have J8:=aA hf;have Tv:=aA HP;have VM:=aA HI;clear hc hf HP HI;have hr:=Blk.new w 164 #[.int .u8 0,.string ⟨#[]⟩,.int .i64 0];have Gd:Below w.heap.size w (w.alloc (.cells #[.int .u8 0,.string ⟨#[]⟩,.int .i64 0] 164)):=(Below.refl _ _).alloc (aL _) _;go_enter Tryz.func128,Tryz.ntmps128;go_wp2_with fail;refine(H1 _).mono ?_;rintro _ w1 ⟨rfl,hb⟩;have hr:=hr.below hb hr.lt;have Gd:=Gd.trans (hb.mono Gd.size);clear hb;go_wp2_with fail;refine(H2 _).mono ?_;rintro _ w2 ⟨rfl,hb⟩;have hr:=hr.below hb hr.lt;have Gd:=Gd.trans (hb.mono Gd.size);clear hb;go_wp2_with fail;refine(Tv _).mono ?_;rintro _ w3 ⟨rfl,hb⟩;have hr:=hr.below hb hr.lt;have Gd:=Gd.trans (hb.mono Gd.size);clear hb;have C:=aA (λ(W:World)(h:Below w3.heap.size w3 W)=>(VM W (Gd.trans (h.mono Gd.size))).mono λx w' h2=>show x= .returned (.string (s.extract 0 d))/\Below w3.heap.size w3 w' from⟨h2.1,h.trans (h2.2.mono h.size)⟩);have hS:Below w3.heap.size w3 w3.drew:=(Below.refl _ _).drew;have VN:Nonempty (HeldW (Below w3.heap.size w3)):=⟨⟨_,hS⟩⟩;have HR:=aA hr;have Rv:=aA Gd;clear hr Gd;go_wp2_with fail;refine zbA (Below w3.heap.size w3) hS (by kernel_rfl) (by kernel_rfl) ?_
 repeat(go_big_quiet_step ((go_at_call 197;exact zdY C.out)))
 refine wpQuiet_nil ?_;intro _ VO;obtain⟨z,rfl⟩:=VO;have hr:=HR.below z.h HR.lt;have Gd:=Rv.trans (z.h.mono Rv.size);have c0:=hr.cell 0;have c1:=hr.cell 1;have c2:=hr.cell 2;have f0:=hr.frozen 0;have f1:=hr.frozen 1;have f2:=hr.frozen 2;simp only[aD]at c0 c1 c2;go_wp2_with fail;have hE:=((hr.set_ 0 (.int .u8 0)).set_ 1 (.string ⟨#[]⟩)).set_ 2 (.int .i64 0);simp only[List.setIfInBounds_toArray,List.set_cons_zero,List.set_cons_succ]at hE;have e0:=hE.cell 0;have e1:=hE.cell 1;have e2:=hE.cell 2;simp only[aD]at e0 e1 e2;have No:=((Gd.setCell (p:=⟨w.heap.size,0,none⟩) (aL _) (.int .u8 0)).setCell (p:=⟨w.heap.size,1,none⟩) (aL _) (.string ⟨#[]⟩)).setCell (p:=⟨w.heap.size,2,none⟩) (aL _) (.int .i64 0);exact bodyPost_ret (v:= .tuple #[.agg #[.int .u8 0,.string ⟨#[]⟩,.int .i64 0],.int .i64 81]) (by simp[results,Tryz.results128,go_sem,e0,e1,e2]) rfl (zaF J8.out (n:=0) rfl No)
theorem ziP (s:ByteArray)(w:World)(d n:Nat)(v:Int)(t:ByteArray)(ht:(t.toList==(s.extract 0 d).toList)=false)(hc:FirstCalls s d n)(J9:0 < d)(SP:d<=s.size)(hs:s.size<=4096)(U3:n<=4096)
  (HP:∀W,Calls Tryz.prog 196 #[.string (s.extract 0 d),.int .i64 10,.int .i64 64] W λe w'=>e= .returned (.tuple #[.int .i64 v,.nilIface])/\Below W.heap.size W w')
  (HI:∀W,Below w.heap.size w W->Calls Tryz.prog 197 #[.int .i64 v,.int .i64 10] W λe w'=>e= .returned (.string t)/\Below W.heap.size W w')
  (hf:zap s.data.toList=(0,0,81)):
  Calls Tryz.prog 128 #[.string s] w (zaT s.data.toList w):=by
 have H1:=aA hc.r1;have H2:=aA hc.r2;have J8:=aA hf;have Tv:=aA HP;have VM:=aA HI;clear hc hf HP HI;have hr:=Blk.new w 164 #[.int .u8 0,.string ⟨#[]⟩,.int .i64 0];have Gd:Below w.heap.size w (w.alloc (.cells #[.int .u8 0,.string ⟨#[]⟩,.int .i64 0] 164)):=(Below.refl _ _).alloc (aL _) _;go_enter Tryz.func128,Tryz.ntmps128;go_wp2_with fail;refine(H1 _).mono ?_;rintro _ w1 ⟨rfl,hb⟩;have hr:=hr.below hb hr.lt;have Gd:=Gd.trans (hb.mono Gd.size);clear hb;go_wp2_with fail;refine(H2 _).mono ?_;rintro _ w2 ⟨rfl,hb⟩;have hr:=hr.below hb hr.lt;have Gd:=Gd.trans (hb.mono Gd.size);clear hb;go_wp2_with fail;refine(Tv _).mono ?_;rintro _ w3 ⟨rfl,hb⟩;have hr:=hr.below hb hr.lt;have Gd:=Gd.trans (hb.mono Gd.size);clear hb;have C:=aA (λ(W:World)(h:Below w3.heap.size w3 W)=>(VM W (Gd.trans (h.mono Gd.size))).mono λx w' h2=>show x= .returned (.string t)/\Below w3.heap.size w3 w' from⟨h2.1,h.trans (h2.2.mono h.size)⟩);have hS:Below w3.heap.size w3 w3.drew:=(Below.refl _ _).drew;have VN:Nonempty (HeldW (Below w3.heap.size w3)):=⟨⟨_,hS⟩⟩;have HR:=aA hr;have Rv:=aA Gd;clear hr Gd;go_wp2_with fail;refine zbA (Below w3.heap.size w3) hS (by kernel_rfl) (by kernel_rfl) ?_
 repeat(go_big_quiet_step ((go_at_call 197;exact zdY C.out)))
 refine wpQuiet_nil ?_;intro _ VO;obtain⟨z,rfl⟩:=VO;have hr:=HR.below z.h HR.lt;have Gd:=Rv.trans (z.h.mono Rv.size);have c0:=hr.cell 0;have c1:=hr.cell 1;have c2:=hr.cell 2;have f0:=hr.frozen 0;have f1:=hr.frozen 1;have f2:=hr.frozen 2;simp only[aD]at c0 c1 c2;go_wp2_with fail;have hE:=((hr.set_ 0 (.int .u8 0)).set_ 1 (.string ⟨#[]⟩)).set_ 2 (.int .i64 0);simp only[List.setIfInBounds_toArray,List.set_cons_zero,List.set_cons_succ]at hE;have e0:=hE.cell 0;have e1:=hE.cell 1;have e2:=hE.cell 2;simp only[aD]at e0 e1 e2;have No:=((Gd.setCell (p:=⟨w.heap.size,0,none⟩) (aL _) (.int .u8 0)).setCell (p:=⟨w.heap.size,1,none⟩) (aL _) (.string ⟨#[]⟩)).setCell (p:=⟨w.heap.size,2,none⟩) (aL _) (.int .i64 0);exact bodyPost_ret (v:= .tuple #[.agg #[.int .u8 0,.string ⟨#[]⟩,.int .i64 0],.int .i64 81]) (by simp[results,Tryz.results128,go_sem,e0,e1,e2]) rfl (zaF J8.out (n:=0) rfl No)
theorem ziQ (s:ByteArray)(w:World)(d n:Nat)(hc:FirstCalls s d n)(J9:0 < d)(SP:d<=s.size)(hs:s.size<=4096)(U3:n<=4096)(hf:zap s.data.toList=(0,0,81))
  (HP:∀W,Below w.heap.size w W->Calls Tryz.prog 196 #[.string (s.extract 0 d),.int .i64 10,.int .i64 64] W λe w'=>∃m t p,e= .returned (.tuple #[.int .i64 m,.iface t p])/\Below W.heap.size W w'):
  Calls Tryz.prog 128 #[.string s] w (zaT s.data.toList w):=by
 have H1:=aA hc.r1;have H2:=aA hc.r2;have J8:=aA hf;have Tv:=aA HP;clear hc hf HP;have hr:=Blk.new w 164 #[.int .u8 0,.string ⟨#[]⟩,.int .i64 0];have Gd:Below w.heap.size w (w.alloc (.cells #[.int .u8 0,.string ⟨#[]⟩,.int .i64 0] 164)):=(Below.refl _ _).alloc (aL _) _;go_enter Tryz.func128,Tryz.ntmps128;go_wp2_with fail;refine(H1 _).mono ?_;rintro _ w1 ⟨rfl,hb⟩;have hr:=hr.below hb hr.lt;have Gd:=Gd.trans (hb.mono Gd.size);clear hb;go_wp2_with fail;refine(H2 _).mono ?_;rintro _ w2 ⟨rfl,hb⟩;have hr:=hr.below hb hr.lt;have Gd:=Gd.trans (hb.mono Gd.size);clear hb;go_wp2_with fail;refine(Tv _ Gd).mono ?_;rintro _ w3 ⟨m,t,p,rfl,hb⟩;have hr:=hr.below hb hr.lt;have Gd:=Gd.trans (hb.mono Gd.size);clear hb;go_wp2_with fail
 go_quiet (fail)
 have Np:∀k,Blk (w3.drewN k) w.heap.size 164 #[.int .u8 0,.string ⟨#[]⟩,.int .i64 0]/\Below w.heap.size w (w3.drewN k):=λk=>⟨hr,below_drewN Gd k⟩;generalize Fv:w3.drewN _=w4;have h5:Blk w4 w.heap.size 164 #[.int .u8 0,.string ⟨#[]⟩,.int .i64 0]/\Below w.heap.size w w4:=by rw[<-Fv];exact Np _
 clear Fv Np hr Gd;obtain⟨hr,Gd⟩:=h5;have c0:=hr.cell 0;have c1:=hr.cell 1;have c2:=hr.cell 2;have f0:=hr.frozen 0;have f1:=hr.frozen 1;have f2:=hr.frozen 2;simp only[aD]at c0 c1 c2;go_wp2_with fail;have hE:=((hr.set_ 0 (.int .u8 0)).set_ 1 (.string ⟨#[]⟩)).set_ 2 (.int .i64 0);simp only[List.setIfInBounds_toArray,List.set_cons_zero,List.set_cons_succ]at hE;have e0:=hE.cell 0;have e1:=hE.cell 1;have e2:=hE.cell 2;simp only[aD]at e0 e1 e2;have No:=((Gd.setCell (p:=⟨w.heap.size,0,none⟩) (aL _) (.int .u8 0)).setCell (p:=⟨w.heap.size,1,none⟩) (aL _) (.string ⟨#[]⟩)).setCell (p:=⟨w.heap.size,2,none⟩) (aL _) (.int .i64 0);exact bodyPost_ret (v:= .tuple #[.agg #[.int .u8 0,.string ⟨#[]⟩,.int .i64 0],.int .i64 81]) (by simp[results,Tryz.results128,go_sem,e0,e1,e2]) rfl (zaF J8.out (n:=0) rfl No)
theorem ziR {l:List UInt8}(h:0 < runB zaD l):zap l=if(numB (l.take (runB zaD l))&& !decide (runB zaD l < runB isWd l))=true then(2,runB zaD l,0)else(0,0,81):=by
 unfold zap;rw[if_pos h]
theorem zhi {l:List UInt8}(h:¬0 < runB zaD l):zap l=if 16 < runB isWd l then((0:Int),0,(82:Int))else if 0 < runB isWd l then((1:Int),runB isWd l,(0:Int))else match signL.find? (λx=>x.isPrefixOf l)with|some x=>((3:Int),x.length,(0:Int))|none=>((0:Int),0,(80:Int)):=by
 unfold zap;rw[if_neg h];rfl
theorem zj4 (s:ByteArray)(hs:s.size<=4096)(w:World)(he:LexEnv w):Calls Tryz.prog 128 #[.string s] w (zaT s.data.toList w):=by
 have hc:=ziK s hs;have Hx:s.data.toList.length=s.size:=by simp
 have YM:=zb0 zaD s.data.toList;have U4:=zb0 isWd s.data.toList;by_cases J9:0 < runB zaD s.data.toList
 ·have hf:=ziR J9;obtain⟨d,hd⟩:=aF (runB zaD s.data.toList);obtain⟨n,hn⟩:=aF (runB isWd s.data.toList);have P7:=zcJ s.data.toList;rw[<-hd]at P7 J9 hf hc YM;rw[<-hn]at hf hc U4;have jv:=zd3 s d;have SP:d<=s.size:=by omega
  have Gh:s.data.toList.take d≠ []:=by
   intro e;have:=congrArg List.length e;rw[List.length_take,List.length_nil]at this;omega
  rw[<-jv]at P7 Gh hf;have jw:(s.extract 0 d).size <=4096:=by
   have:(s.extract 0 d).data.toList.length =(s.extract 0 d).size :=by simp
   rw[jv]at this;have h2:(s.data.toList.take d).length <=d:=List.length_take_le _ _;omega
  by_cases hv:decV (s.extract 0 d).data.toList <=9223372036854775807
  ·have hP:∀W,Calls Tryz.prog 196 #[.string (s.extract 0 d),.int .i64 10,.int .i64 64] W λe w'=>e= .returned (.tuple #[.int .i64 (decV (s.extract 0 d).data.toList),.nilIface])/\Below W.heap.size W w':=λW=>
    zot (s.extract 0 d) jw P7 Gh hv W
   have hI:∀W,Below w.heap.size w W->Calls Tryz.prog 197 #[.int .i64 (decV (s.extract 0 d).data.toList),.int .i64 10] W λe w'=>e= .returned (.string ⟨(Lib.itoa (decV (s.extract 0 d).data.toList :Int)).toArray⟩)/\Below W.heap.size W w':=λW h=>
    zmp _ hv W (he.keep h)
   have GZ:=zjW (s.extract 0 d).data.toList P7 Gh;have LQ:numB (s.extract 0 d).data.toList =((s.extract 0 d).data.toList.length ==1 || !((s.extract 0 d).data.toList.head? ==some 48)):=by
    unfold numB;rw[decide_eq_true hv,Bool.and_true]
   rw[LQ,<-GZ]at hf;cases hz:(Lib.itoa (decV (s.extract 0 d).data.toList :Int)==(s.extract 0 d).data.toList)
   ·rw[hz]at hf;rw[if_neg (by simp)]at hf;exact ziP s w d n _ ⟨(Lib.itoa (decV (s.extract 0 d).data.toList :Int)).toArray⟩ (by rw[ByteArray.toList_mk,ByteArray.toList_eq];exact hz) hc J9 SP hs (by omega) hP hI hf
   ·have e:(⟨(Lib.itoa (decV (s.extract 0 d).data.toList :Int)).toArray⟩:ByteArray)=s.extract 0 d:=by
     rw[eq_of_beq hz]
    rw[e]at hI;rw[hz]at hf;cases hl:decide (d < n)
    ·rw[hl]at hf;rw[if_pos (by simp)]at hf;exact zj3 s w d n _ hc J9 SP hs (by omega) hP hI hl hf
    ·rw[hl]at hf;rw[if_neg (by simp)]at hf;exact ziO s w d n _ hc J9 SP hs (by omega) hP hI hl hf
  ·have LQ:numB (s.extract 0 d).data.toList =false:=by unfold numB;rw[decide_eq_false hv,Bool.and_false]
   rw[LQ]at hf;rw[if_neg (by simp)]at hf;exact ziQ s w d n hc J9 SP hs (by omega) hf λW h=>zou (s.extract 0 d) jw P7 Gh hv W (he.keep h)
 ·have h0:runB zaD s.data.toList=0:=by omega
  have hf:=zhi J9;rw[h0]at hc;by_cases hw:16 < runB isWd s.data.toList
  ·rw[if_pos hw]at hf;exact ziL s w _ hc hw (by omega) hf
  ·rw[if_neg hw]at hf;by_cases LM:0 < runB isWd s.data.toList
   ·rw[if_pos LM]at hf;exact ziM s w _ hc hw LM (by omega) hs hf
   ·rw[if_neg LM]at hf;have h1:runB isWd s.data.toList=0:=by omega
    rw[h1]at hc;exact ziN s w hc hf
/-! tokens in memory -/
def tkC (t:Tk):List Value:= [.int .u8 t.kind,.string ⟨t.text.toArray⟩,.int .i64 t.at_]
def zd4 (r:List Tk×Nat×Int)(W:World)(e:Ending)(w':World):Prop:=
 ∃v,e= .returned (.tuple #[v,.int .i64 r.2.1,.int .i64 r.2.2])/\w'.ownsRow W.heap.size 164 3 v r.1.length (r.1.flatMap tkC)/\Below W.heap.size W w'
theorem zc8 {r q:List Tk×Nat×Int}{W w':World}{v:Value}(h:r=q)(ho:w'.ownsRow W.heap.size 164 3 v q.1.length (q.1.flatMap tkC))(hb:Below W.heap.size W w'):
  zd4 r W (.returned (.tuple #[v,.int .i64 q.2.1,.int .i64 q.2.2])) w':=by subst h;exact⟨v,rfl,ho,hb⟩
def zgo (acc:List Tk)(r:List Tk×Nat×Int):List Tk×Nat×Int:=if r.2.2=0 then(acc++r.1,0,0)else r
theorem zow {l:List UInt8}{p f:Nat}(h:(l.drop (p+runB zbv (l.drop p))).length =0)(hf:0 < f):za8 f (l.drop p) p=([],0,0):=by
 obtain⟨g,rfl⟩:∃g,f=g+1:=⟨f - 1,by omega⟩;rw[za8];simp only[List.drop_drop];rw[if_pos h]
theorem zox {l:List UInt8}{p f:Nat}(h:¬(l.drop (p+runB zbv (l.drop p))).length =0)(hf:0 < f)(he:¬(zap (l.drop (p+runB zbv (l.drop p)))).2.2 =0):
  za8 f (l.drop p) p=([],p+runB zbv (l.drop p),(zap (l.drop (p+runB zbv (l.drop p)))).2.2):=by
 obtain⟨g,rfl⟩:∃g,f=g+1:=⟨f - 1,by omega⟩;rw[za8];simp only[List.drop_drop];rw[if_neg h,if_neg he]
theorem zpJ {l:List UInt8}{p b n:Nat}{k:Int}{acc:List Tk}(hb:b=runB zbv (l.drop p))(h:¬(l.drop (p+b)).length =0)(he:zap (l.drop (p+b))=(k,n,0))(hp:p<=l.length)
  {R:List Tk×Nat×Int} (hR:R=zgo acc (za8 (l.length+1 - p) (l.drop p) p)):
  R=zgo (acc++ [{kind:=k,text:=(l.drop (p+b)).take n,at_:=p+b}]) (za8 (l.length+1 - (p+b+n)) (l.drop (p+b+n)) (p+b+n)):=by
 have hn:0 < n:=by have:=zcf (l:=l.drop (p+b)) (by rw[he]);rw[he]at this;exact this
 have hle:n<=(l.drop (p+b)).length :=by have:=zcH (l:=l.drop (p+b));rw[he]at this;exact this
 have Ju:p+b < l.length:=by simp only[List.length_drop]at h;omega
 rw[List.length_drop]at hle;obtain⟨g,hg⟩:∃g,l.length+1 - p=g+1:=⟨l.length - p,by omega⟩;have e:za8 (l.length+1 - p) (l.drop p) p=if(za8 (l.length+1 - (p+b+n)) (l.drop (p+b+n)) (p+b+n)).2.2 =0 then({kind:=k,text:=(l.drop (p+b)).take n,at_:=p+b}::(za8 (l.length+1 - (p+b+n)) (l.drop (p+b+n)) (p+b+n)).1,0,0)else za8 (l.length+1 - (p+b+n)) (l.drop (p+b+n)) (p+b+n):=by
  rw[hg,za8];simp only[List.drop_drop,<-hb];rw[if_neg h];simp only[he];rw[if_pos trivial];have qD:=zeW g (l.length+1 - (p+b+n)) (l.drop (p+b+n)) (p+b+n) (by rw[List.length_drop];omega) (by rw[List.length_drop];omega);rw[qD]
 rw[hR,e];unfold zgo;by_cases h2:(za8 (l.length+1 - (p+b+n)) (l.drop (p+b+n)) (p+b+n)).2.2 =0
 ·rw[if_pos h2,if_pos rfl,if_pos h2];simp
 ·rw[if_neg h2,if_neg h2,if_neg h2]
theorem zgp (s:ByteArray)(p:Nat):(s.extract p s.size).data.toList =s.data.toList.drop p:=by
 simp;exact List.take_of_length_le (by simp)
theorem znP:(Tryz.prog.info? 164).map (λi=>(i.zero,i.size,i.bytes))=some (some (.agg #[.int .u8 0,.string ⟨#[]⟩,.int .i64 0]),3,32):=by kernel_rfl
theorem zhj (s:ByteArray)(w:World)(h:4096 < s.size)(hs:s.size<=9223372036854775807):Calls Tryz.prog 61 #[.string s] w (zd4 (toks s.data.toList) w):=by
 have hr:toks s.data.toList=([],0,3):=by unfold toks;rw[if_pos (by rw[zbQ];exact h)]
 have HR:=aA hr;have h2:decide (4096 < (s.size:Int))=true:=by simp;omega
 clear hr;go_enter Tryz.func61,Tryz.ntmps61;go_wp2
 go_ret3
 exact zc8 HR.out (World.ownsRow_nil _ _ _ _) (Below.refl _ _)
theorem zmq:∀(f:Nat)(l:List UInt8)(p:Nat),(za8 f l p).2.2 =0->(za8 f l p).2.1 =0
 |0,_,_,_=>rfl
 |f+1,l,p,h=>by
  rw[za8]at h ⊢;simp only at h ⊢;split
  ·rfl
  ·rename_i h1;rw[if_neg h1]at h;split
   ·rename_i h2;rw[if_pos h2]at h;split
    ·rfl
    ·rename_i h3;rw[if_neg h3]at h;exact absurd h h3
   ·rename_i h2;rw[if_neg h2]at h;exact absurd h h2
theorem zgq (s:ByteArray)(w:World)(hs:s.size<=4096)(he:LexEnv w):Calls Tryz.prog 61 #[.string s] w (zd4 (toks s.data.toList) w):=by
 have hr:toks s.data.toList=zgo [] (za8 (s.data.toList.length+1 - 0) (s.data.toList.drop 0) 0):=by
  unfold toks;rw[if_neg (by rw[zbQ];omega)];unfold zgo;by_cases h:(za8 (s.data.toList.length+1) s.data.toList 0).2.2 =0
  ·rw[if_pos (by simpa using h)];have h2:=zmq _ _ _ h;simp only[Nat.sub_zero,List.drop_zero,List.nil_append];rw[Prod.ext_iff,Prod.ext_iff];exact⟨rfl,h2,h⟩
  ·rw[if_neg (by simpa using h)];simp
 have HR:=aA hr;have HE:=aA he;clear hr he;obtain⟨i0,hi,Fg,Hw,G5⟩:=info_parts znP;go_enter Tryz.func61,Tryz.ntmps61;go_wp2;go_loopw [2,3] (λv2 v3 wr=>∃(p:Nat)(acc:List Tk),p<=s.size/\v3= .int .i64 p/\acc.length<=p/\wr.ownsRow w.heap.size 164 3 v2 acc.length (acc.flatMap tkC)/\Below w.heap.size w wr/\Hid (toks s.data.toList=zgo acc (za8 (s.data.toList.length+1 - p) (s.data.toList.drop p) p))) (λ_ v3 _=>s.size - (intOf v3).toNat);case atStart=>exact⟨0, [],Nat.zero_le _,rfl,Nat.zero_le _,World.ownsRow_nil _ _ _ _,Below.refl _ _,HR.out⟩
 case round=>
  obtain⟨p,acc,hp,rfl,jx,Ha,hb,hR⟩:=hrel;have hlen:=zbQ s;have GL:∀W,Calls Tryz.prog 126 #[.string (s.extract p s.size),.func (.func 127) #[] #[]] W (zdX (runB zbv (s.data.toList.drop p)) W):=λW=>by
   have:=zfC _ _ _ zpG (s.extract p s.size) (by simp;omega) W;rw[zgp]at this;exact this
  obtain⟨b,X3⟩:=aF (runB zbv (s.data.toList.drop p));have JS:p+b<=s.size:=by
   have:=zb0 zbv (s.data.toList.drop p);rw[<-X3,List.length_drop]at this;omega
  rw[<-X3]at GL;have P8:=aA GL;have Rw:=aA X3;have HO:=aA Ha;have HB:=aA hb;have HL:=aA hlen;clear GL X3 Ha hb hlen;go_wp2_with fail;refine(P8 _).mono ?_;rintro _ w1 ⟨rfl,Gz⟩;have Ha:=HO.kept (zcI Gz none) (by rcases Option.eq_none_or_eq_some u2.ownBlock with h|⟨_,h⟩<;>simp[h]);have VP:=HB.trans (Gz.mono HB.size);have jy:=aA Ha;have Gw:=aA VP;clear Ha VP Gz HO HB;by_cases Pg:p+b=s.size
  ·have Jm:toks s.data.toList=(acc,0,0):=by
    rw[hR.out,zow (by rw[<-Rw.out,List.length_drop,HL.out];omega) (by rw[HL.out];omega)];simp[zgo]
   have HF:=aA Jm;have e1:((↑p+ ↑b:Int)== ↑s.size)=true:=by simp;omega
   clear Jm hR;go_wp2_with fail
   go_ret3
   exact zc8 HF.out jy.out Gw.out
  ·have e1:((↑p+ ↑b:Int)== ↑s.size)=false:=by simp;omega
   have Gh:¬(s.data.toList.drop (p+b)).length =0:=by rw[List.length_drop,HL.out];omega
   have Rx:=zj4 (s.extract (p+b) s.size) (by simp;omega) w1 (HE.keep Gw.out);rw[zgp]at Rx;have Tw:=zcH (l:=s.data.toList.drop (p+b));obtain⟨⟨k,n,er⟩,hq⟩:=aF (zap (s.data.toList.drop (p+b)));unfold zaT at Rx;rw[<-hq]at Rx Tw;simp only at Rx Tw;rw[List.length_drop,HL.out]at Tw;have HC:=aA Rx;have HQ:=aA hq;have KU:=aA Gh;clear Rx hq Gh Pg;go_wp2_with fail;refine HC.mono ?_;rintro _ w2 ⟨tx,Mh,rfl,G2⟩;have Ph:tx.size=n:=by
    have:=congrArg List.length Mh;rw[List.length_take,List.length_drop,HL.out,zbQ]at this;omega
   have Ha:=jy.kept (zcI G2 none) (by rcases Option.eq_none_or_eq_some u2.ownBlock with h|⟨_,h⟩<;>simp[h]);have VP:=Gw.trans (G2.mono Gw.size);have Hk:=Ha.lt;have qE:=aA Ha;have LR:=aA VP;have YN:=aA Hk;have qF:=aA (zpD Mh);obtain rfl:n=tx.size:=Ph.symm;clear Ha VP G2 Mh Ph Hk HC;by_cases P9:er=0
   ·subst P9;have GX:(acc.length+1)*32<=140737488355328:=by omega
    go_wp2_with (at_builtin;refine wpList_append_own _ rfl _ _ 157 rfl w.heap.size 164 i0 (.agg #[.int .u8 0,.string ⟨#[]⟩,.int .i64 0]) 3 32 Tryz.underlying157 hi Fg Hw G5 rfl (by decide) _ _ _ rfl ((qE.alloc _).alloc _) ⟨w2.heap.size+1,0,none⟩ 1 1 [.int .u8 k,.string tx,.int .i64 (↑p+ ↑b)] rfl rfl ?c1 ?c2 ?c3 ?c4 ?c5 ?_);case c1=>
     intro j u hj
     match j,hj with
     |0,hj=>simp at hj;subst hj;simp[Addr.add]
     |1,hj=>simp at hj;subst hj;simp[Addr.add]
     |2,hj=>simp at hj;subst hj;simp[Addr.add]
    case c2=>
     intro u hu;simp only[List.mem_cons,List.not_mem_nil,or_false]at hu;rcases hu with rfl|rfl|rfl<;>rfl
    case c3=>unfold maxLen;omega
    case c4=>exact GX
    case c5=>simp;have:=LR.size;omega
    intro v' w3 SQ Hf _;obtain⟨tk,Mu⟩:∃tk:Tk,tk={kind:=k,text:=(s.data.toList.drop (p+b)).take tx.size,at_:=p+b}:=⟨_,rfl⟩;have zR:0 < tx.size:=by have:=zcf (l:=s.data.toList.drop (p+b)) (by rw[<-HQ.out]);rw[<-HQ.out]at this;exact this
    have FE:w3.cell? ⟨w2.heap.size,1,none⟩=some (.string tx):=by
     refine(World.cell?_of_block (Hf.block w2.heap.size (by simp;omega) (λe=>?_))).trans (by simp);have:=YN w2.heap.size e.symm;omega
    have jz:Below w.heap.size w w3:=((LR.alloc LR.size _).alloc (by simp;have:=LR.size;omega) _).grown Hf (by simp;have:=LR.size;omega) (λg hg=>(YN g hg).1);have PN:=zpJ Rw.out KU.out HQ.symm (by rw[HL.out];exact hp) hR.out;rw[<-Mu]at PN;have SR:w3.ownsRow w.heap.size 164 3 v' (acc++ [tk]).length ((acc++ [tk]).flatMap tkC):=by
     rw[List.flatMap_append,List.length_append];have e:([tk]:List Tk).flatMap tkC= [.int .u8 k,.string tx,.int .i64 (↑p+ ↑b)]:=by
      rw[Mu];simp only[List.flatMap_cons,List.flatMap_nil,List.append_nil,tkC,<-qF.out];rw[show(((p+b:Nat):Int))= ↑p+ ↑b from by omega]
     rw[e];exact SQ
    have HG:=aA PN;have qG:=aA SR;have NY:=aA jz;clear SQ Hf PN SR jz hR Mu;go_wp2_with fail;go_roundw;case rel=>exact⟨p+b+tx.size,acc++ [tk],by omega,by go_num,by rw[List.length_append];simp;omega,qG.out,NY.out,HG.out⟩
    case measure=>simp[intOf];omega
   ·have e2:(er != 0)=true:=by simpa using P9
    have Jm:toks s.data.toList=([],p+b,er):=by
     have h0:=KU.out;rw[hR.out,zox (by rw[<-Rw.out];exact h0) (by rw[HL.out];omega) (by rw[<-Rw.out,<-HQ.out];exact P9),<-Rw.out,<-HQ.out];simp[zgo,P9]
    have hP:∀W,Below w.heap.size w W->zd4 (toks s.data.toList) w (.returned (.tuple #[.slice none 0 0,.int .i64 (↑p+ ↑b),.int .i64 er])) W:=λW h=>by
     have:=zc8 (v:= .slice none 0 0) Jm (World.ownsRow_nil W w.heap.size 164 3) h;rw[show(((p+b:Nat):Int))= ↑p+ ↑b from by omega]at this;exact this
    have HP:=aA hP;clear hP Jm P9;go_wp2_with fail
    go_ret3
    exact HP _ (LR.alloc LR.size _)
structure NameEnv (w:World):Prop where
 lex:LexEnv w
 sp:Lib.TabIs Tryz.prog w "strings.asciiSpace" .u8 Lib.asciiSpaceTab
theorem NameEnv.keep {w w':World}(h:NameEnv w)(hb:Below w.heap.size w w'):NameEnv w':=
 ⟨h.lex.keep hb,by have:=h.sp;unfold Lib.TabIs at this ⊢;exact zdO hb this⟩
theorem NameEnv.toSp {w:World}(h:NameEnv w):SpEnv w:=⟨h.sp⟩
theorem zmr (s:ByteArray)(hs:s.size<=9223372036854775807)(w:World)(he:NameEnv w):Calls Tryz.prog 91 #[.string s] w λe w'=>e= .returned (.bool (zbk s.data.toList))/\Below w.heap.size w w':=zd1 s hs w he.toSp
theorem ziS (s:ByteArray)(hs:s.size<=9223372036854775807)(w:World)(he:LexEnv w):Calls Tryz.prog 61 #[.string s] w (zd4 (toks s.data.toList) w):=by
 by_cases h:4096 < s.size
 ·exact zhj s w h hs
 ·exact zgq s w (by omega) he
