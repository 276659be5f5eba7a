/- Small lemmas without a program, copied from the guide's page of small lemmas: the row's last step, quiet regions, frames behind draws, four results. -/
import Derived.ChangeSame
import Derived.Deep.QuietTactic
import Derived.Deep.OwnRows
import Derived.BigQuiet
import Derived.Lib.SmallJoins
import Derived.Laws.Rows
import Derived.Laws.Tables
import Derived.Test.YtfomomaomggpbaaGreatDoorJnLxF
import Derived.Test.YtfomomaomggpbaaGreatDoorShelf
import Derived.Test.YtfomomaomggpbaaGreatDoorJgLxNum
set_option linter.all false
set_option maxHeartbeats 1600000
set_option maxRecDepth 100000
namespace Go.Proofs.YtfomomaomggpbaaGreatDoor
open Go.RowKit Go.WideShapes Go.ChangeShapes
section
variable {H:Type} {enc:TypeId×Value->H} {P:Program}
theorem zfe {f:Func}{s:ChangeSpec}{apart fresh handsOn again:Bool}{W W':World}{args:Array Value}{v:Value}{ds gs:List (DataW H)}{before pa pv:List MemPlace}
  (hW:DataW.Whole enc P f.params.toList s.vars apart W args.toList ds gs before)
  (UY:∀(b:Nat)(sp:Nat->Bool)(hd:Bool),DataW.TrodAll enc P W' b sp hd f.resultTypes.toList (v.resultList f.resultTypes.size) (s.fn H (ds++gs)).results [])
  (RX:∀sp:Nat->Bool,(∀p∈before,sp p.block=true)->DataW.TrodAll enc P W' 0 sp true f.params.toList args.toList (s.fn H (ds++gs)).args pa)
  (RY:∀sp:Nat->Bool,(∀p∈before,sp p.block=true)->DataW.TrodVars enc P W' sp s.vars (s.fn H (ds++gs)).vars pv)
  (Js:before=pa++pv) (hb:Below W.heap.size W W')
  (Fh:∀(j:Nat)(t:TypeId)(r:Value),f.resultTypes[j]?=some t->(v.resultList f.resultTypes.size)[j]?=some r->Value.okWide P W' .any 0 t r):
  s.post enc P f apart fresh handsOn again W args v W':=by
 have Hl:∀p∈before,p.block < W.heap.size:=λp hp=>hW.lt p hp;have hold:∀p∈before,(λb=>decide (b < W.heap.size)) p.block=true:=λp hp=>by simpa using Hl p hp
 refine⟨ds,gs,before, [],pa,pv,hW,UY _ _ _,RX _ hold,RY _ hold,World.keptBut_mono (λp hp=>⟨hp,?_⟩) (hb.frame (· ∈before)),λ_=>?_⟩
 ·rw[Js,List.mem_append]at hp;exact Or.inr hp
 ·obtain⟨_,_,_,_,_,hz,hn⟩:=hW;refine⟨Fh,_,_,([]++pa)++pv,⟨[]++pa,pv,trodAll_append (RX _ (λ_ _=>rfl)) (UY _ _ _),RY _ (λ_ _=>rfl),rfl,?_,?_⟩,?_⟩
  ·intro b off hp;have Mq:MemPlace.cell b off∈before:=by rw[Js];simpa using hp
   rw[hb.frozen (Hl _ Mq)];exact hz b off Mq
  ·intro ha;have:=hn ha;rw[Js]at this;simpa using this
  ·intro p hp _;rw[Js];simpa using hp
end
theorem zcE {a w:World}(h:Below a.heap.size a w)(row:Option Nat):a.grownBy w row:=⟨h.os,h.tape,h.output,h.size,λi hi _=>h.block i hi⟩
theorem zm8 (w:World)(cs:Array Value)(t:TypeId)(i:Nat):(w.alloc (.cells cs t)).cell? ⟨w.heap.size,i,none⟩=cs[i]?:=by
 simp
theorem makeF {P:Program}(fn:Fn)(first cap:Array Value)(w:World):(Instr.makeFunc fn first cap).run P w= .ok (.func fn first cap) w:=rfl
structure HeldW (S:World->Prop) where
 w:World
 h:S w
theorem zbx {P:Program}{id:Nat}{Q:Exit->Act->World->Prop}{a:Act}{w:World}{l:List Oper}(S:World->Prop)(hS:S w.drew)(hm:P.follows .mixedOrders =true)(hB:Region.lexB .any l.toArray=true)
  (h:wpQuiet P l.toArray (λw'=>∃z:HeldW S,w'=z.w) (λa'=>∀w',(∃z:HeldW S,w'=z.w)->Q .normal a' w') l a):(Code.region id l.toArray true).wp P Q a w:=
 wp_region_quiet (C:=λw'=>∃z:HeldW S,w'=z.w) hm hB ⟨⟨w.drew,hS⟩,rfl⟩ (by simpa using h)
theorem zdL {P:Program}{f:FuncId}{args:Array Value}{S:World->Prop}{z:HeldW S}{v:Value}(h:∀W,S W->Calls P f args W λe w'=>e= .returned v/\S w'):
  Calls P f args z.w λe w''=>e= .returned v/\∃z':HeldW S,w''=z'.w:=
 (h z.w z.h).mono λ_ w'' ⟨he,hs⟩=>⟨he,⟨w'',hs⟩,rfl⟩
theorem zdz {P:Program}{w w':World}{n:String}{cs:Array Value}(h:Below w.heap.size w w')(hv:w.var? P n=some cs):w'.var? P n=some cs:=by
 unfold World.var? at hv ⊢;cases hg:P.globalNamed n with
 |none=>rw[hg]at hv;cases hv
 |some g=>
  rw[hg]at hv;simp only[Option.bind_some]at hv ⊢;have Hl:g < w.heap.size:=by
   rcases Nat.lt_or_ge g w.heap.size with Hl|Fz
   ·exact Hl
   ·rw[Array.getElem?_eq_none Fz]at hv;cases hv
  rw[h.block g Hl];exact hv
theorem zbu {B:Nat}{a w:World}(h:Below B a w){g:Nat}(hg:B<=g)(cs:Array Value):Below B a (w.setRow g cs):=
 ⟨h.os,h.tape,h.output,by rw[setRow_size];exact h.size,λi hi=>(setRow_other _ _ i _ (by omega)).trans (h.block i hi)⟩
open Go.RowKit Go.Shelf
def kwB:List UInt8:= [118,97,114,32,97,114,114,97,121,32,112,114,111,99,32,109,97,105,110,32,115,107,105,112,32,105,110,112,117,116,32,97,115,115,117,109,101]++ [32,97,115,115,101,114,116,32,105,102,32,101,108,115,101,32,119,104,105,108,101,32,99,97,108,108,32,116,114,117,101,32,102,97,108,115,101]
def kwL:List (List UInt8):= [[118,97,114], [97,114,114,97,121], [112,114,111,99], [109,97,105,110], [115,107,105,112], [105,110,112,117,116], [97,115,115,117,109,101], [97,115,115,101,114,116], [105,102], [101,108,115,101], [119,104,105,108,101], [99,97,108,108], [116,114,117,101], [102,97,108,115,101]]
theorem zi5:Lib.fields kwB=kwL:=by decide+kernel
theorem zlh:kwB.all (λb=>decide (b.toNat < 128))=true:=by decide+kernel
def keyB (l:List UInt8):Bool:=kwL.contains l
def zbj (l:List UInt8):Bool:=(runB isWd l==l.length)&&decide (0 < runB isWd l)&&decide (runB isWd l<=16)&& !(zaE (l.headD 0))&& !keyB l
structure SpEnv (w:World):Prop where
 sp:Lib.TabIs Tryz.prog w "strings.asciiSpace" .u8 Lib.asciiSpaceTab
theorem SpEnv.keep {w w':World}(h:SpEnv w)(hb:Below w.heap.size w w'):SpEnv w':=
 ⟨by have:=h.sp;unfold Lib.TabIs at this ⊢;exact zdz hb this⟩
theorem zfR (s:ByteArray):Lib.containsS (kwL.map λl=>(⟨l.toArray⟩:ByteArray)) s=keyB s.data.toList:=by
 unfold keyB;rw[Bool.eq_iff_iff,Lib.containsS_iff,List.contains_iff_mem,List.mem_map];constructor
 ·rintro⟨l,hl,rfl⟩;exact hl
 ·intro h;exact⟨_,h,(zob rfl).symm⟩
theorem zeC (s:ByteArray)(w:World)(he:SpEnv w):Calls Tryz.prog 161 #[.string s] w λe w'=>e= .returned (.bool (keyB s.data.toList))/\Below w.heap.size w w':=by
 have h1:=Tryz.strings_Fields ⟨kwB.toArray⟩ w (by decide+kernel) (λj b hj=>by
  have:=List.all_eq_true.1 zlh b (List.mem_of_getElem? hj);simpa using this) he.sp
 have h2:=Tryz.slices_Contains_string w.heap.size 0 14 14 (kwL.map λl=>(⟨l.toArray⟩:ByteArray)) s (w.alloc (.cells ((kwL).map λl=>Value.string ⟨l.toArray⟩).toArray 9)) (by decide) (by decide) (λj hj=>by
  have jR:j < kwL.length:=by simpa using hj
  rw[Nat.zero_add,zm8];simp[jR])
 rw[List.take_of_length_le (by decide),zfR]at h2;simp only[show(⟨kwB.toArray⟩:ByteArray).data.toList =kwB from rfl]at h1;rw[zi5]at h1;have hl:kwL.length=14:=rfl;rw[hl]at h1;have H1:=hdq h1;have H2:=hdq h2;clear h1 h2 hl;go_enter Tryz.func161,Tryz.ntmps161;go_wp2_with fail;refine H1.mono ?_;rintro _ w1 ⟨rfl,rfl⟩;go_wp2_with fail;refine H2.mono ?_;rintro _ w1 ⟨rfl,rfl⟩;go_wp2_with fail;go_ret;exact⟨rfl,(Below.refl _ _).alloc (lrq _) _⟩
theorem zdM (s:ByteArray)(hs:s.size<=9223372036854775807)(w:World)(he:SpEnv w):Calls Tryz.prog 91 #[.string s] w λe w'=>e= .returned (.bool (zbj s.data.toList))/\Below w.heap.size w w':=by
 have h1:Calls Tryz.prog 126 #[.string s,.func (.func 158) #[] #[]] w (zdI (runB isWd s.data.toList) w):=ze8 _ _ _ zm6 s hs w;have hle:=zbT isWd s.data.toList;rw[zbJ]at hle;obtain⟨n,hn⟩:=nmq (runB isWd s.data.toList);rw[<-hn]at h1 hle;have H1:=hdq h1;have HE:=hdq he;have Mf:zbj s.data.toList=((n==s.size)&&decide (0 < n)&&decide (n<=16)&& !(zaE (s.data.toList.headD 0))&& !keyB s.data.toList):=by unfold zbj;rw[<-hn,zbJ]
 have J1:=hdq Mf;clear h1 he hn Mf;by_cases c1:n=s.size
 ·by_cases c2:0 < n
  ·by_cases c3:n<=16
   ·have hp:0 < s.size:=by omega
    have hb:=ziZ s 0 hp;obtain⟨b,FM⟩:=nmq (s[0]);have hh:s.data.toList.headD 0=b:=by
     rw[<-FM]at hb;cases hl:s.data.toList with
     |nil=>rw[hl]at hb;simp at hb
     |cons a r=>rw[hl]at hb;simpa using hb
    have e1:((n:Int)==(s.size:Int))=true:=by simp;omega
    have e2:decide ((0:Int) < (n:Int))=true:=by simp;omega
    have Hl:=UInt8.toNat_lt (s[0]'hp);have FZ:=zle (s[0]'hp);rw[<-FM]at FZ;have HH:=hdq hh;cases hd:zaE b
    ·rw[hd]at FZ;have Ul:∀W:World,Calls Tryz.prog 160 #[.int .i32 ((s[0]'hp).toNat :Int)] W λe w'=>e= .returned (.bool false)/\W=w':=λW=>by
      have:=zbU ((s[0]'hp).toNat :Int) W;rw[<-FM,FZ]at this;rw[<-FM];exact this
     have HD:=hdq Ul;cases hk:keyB s.data.toList
     ·have HF:Hid (zbj s.data.toList=true):=by show _=_;rw[J1.out,HH.out,hd,hk];simp[c1,c2,c3];omega
      have UZ:∀W,Below w.heap.size w W->Calls Tryz.prog 161 #[.string s] W λe w'=>e= .returned (.bool false)/\Below W.heap.size W w':=λW h=>by
       have:=zeC s W (HE.keep h);rw[hk]at this;exact this
      have HK:=hdq UZ;clear hd FZ Ul hk UZ hb FM hh;go_enter Tryz.func91,Tryz.ntmps91;go_wp2_with fail;refine H1.mono ?_;rintro _ w1 ⟨rfl,hb⟩;go_wp2_with fail;refine(HD _).mono ?_;rintro _ w2 ⟨rfl,rfl⟩;go_wp2_with fail;refine(HK _ hb).mono ?_;rintro _ w2 ⟨rfl,GP⟩;go_wp2_with fail;go_ret;exact⟨by rw[HF.out];rfl,hb.trans (GP.mono hb.size)⟩
     ·have HF:Hid (zbj s.data.toList=false):=by show _=_;rw[J1.out,hk];simp
      have UZ:∀W,Below w.heap.size w W->Calls Tryz.prog 161 #[.string s] W λe w'=>e= .returned (.bool true)/\Below W.heap.size W w':=λW h=>by
       have:=zeC s W (HE.keep h);rw[hk]at this;exact this
      have HK:=hdq UZ;clear hd FZ Ul hk UZ hb FM hh;go_enter Tryz.func91,Tryz.ntmps91;go_wp2_with fail;refine H1.mono ?_;rintro _ w1 ⟨rfl,hb⟩;go_wp2_with fail;refine(HD _).mono ?_;rintro _ w2 ⟨rfl,rfl⟩;go_wp2_with fail;refine(HK _ hb).mono ?_;rintro _ w2 ⟨rfl,GP⟩;go_wp2_with fail;go_ret;exact⟨by rw[HF.out];rfl,hb.trans (GP.mono hb.size)⟩
    ·rw[hd]at FZ;have Ul:∀W:World,Calls Tryz.prog 160 #[.int .i32 ((s[0]'hp).toNat :Int)] W λe w'=>e= .returned (.bool true)/\W=w':=λW=>by
      have:=zbU ((s[0]'hp).toNat :Int) W;rw[<-FM,FZ]at this;rw[<-FM];exact this
     have HD:=hdq Ul;have HF:Hid (zbj s.data.toList=false):=by show _=_;rw[J1.out,HH.out,hd];simp
     clear hd FZ Ul hb FM hh;go_enter Tryz.func91,Tryz.ntmps91;go_wp2_with fail;refine H1.mono ?_;rintro _ w1 ⟨rfl,hb⟩;go_wp2_with fail;refine(HD _).mono ?_;rintro _ w2 ⟨rfl,rfl⟩;go_wp2_with fail;go_ret;exact⟨by rw[HF.out];rfl,hb⟩
   ·have HF:Hid (zbj s.data.toList=false):=by show _=_;rw[J1.out];simp[c3]
    have e1:((n:Int)==(s.size:Int))=true:=by simp;omega
    have e2:decide ((0:Int) < (n:Int))=true:=by simp;omega
    have e3:decide ((n:Int)<=16)=false:=by simp;omega
    clear c1;go_enter Tryz.func91,Tryz.ntmps91;go_wp2_with fail;refine H1.mono ?_;rintro _ w1 ⟨rfl,hb⟩;go_wp2_with fail;go_ret;exact⟨by rw[HF.out];rfl,hb⟩
  ·have HF:Hid (zbj s.data.toList=false):=by show _=_;rw[J1.out];simp[c2]
   have e1:((n:Int)==(s.size:Int))=true:=by simp;omega
   have e2:decide ((0:Int) < (n:Int))=false:=by simp;omega
   clear c1;go_enter Tryz.func91,Tryz.ntmps91;go_wp2_with fail;refine H1.mono ?_;rintro _ w1 ⟨rfl,hb⟩;go_wp2_with fail;go_ret;exact⟨by rw[HF.out];rfl,hb⟩
 ·have HF:Hid (zbj s.data.toList=false):=by show _=_;rw[J1.out];simp[c1]
  have e1:((n:Int)==(s.size:Int))=false:=by simp;omega
  clear c1;go_enter Tryz.func91,Tryz.ntmps91;go_wp2_with fail;refine H1.mono ?_;rintro _ w1 ⟨rfl,hb⟩;go_wp2_with fail;go_ret;exact⟨by rw[HF.out];rfl,hb⟩
structure LexEnv (w:World):Prop where
 er:∃tp p,w.var? Tryz.prog "strconv.ErrRange" =some #[.iface tp p]
 tab:Lib.TabIs Tryz.prog w "internal/strconv.uint64pow10" .u64 Lib.pow10Tab
theorem LexEnv.keep {w w':World}(h:LexEnv w)(hb:Below w.heap.size w w'):LexEnv w':=by
 obtain⟨tp,p,he⟩:=h.er;exact⟨⟨tp,p,zdz hb he⟩,by have:=h.tab;unfold Lib.TabIs at this ⊢;exact zdz hb this⟩
theorem zdN (w:World)(e:TypeId)(t:ByteArray):Below w.heap.size w (Lib.bytesWorld w e t):=Go.Joins.below_bytesWorld _ _ _ _ (lrq _)
theorem zhV (w:World)(k:Nat)(os:Array Obj):Below w.heap.size w (Go.Sort.grow (w.drewN k) os):=by
 refine⟨rfl,rfl,rfl,by simp[Go.Sort.grow],λi hi=>?_⟩;show(w.heap++os)[i]?=w.heap[i]?
 rw[Array.getElem?_append_left hi]
theorem zm9 (s:ByteArray)(hs:s.size<=4096)(hd:zbV s.data.toList)(hn:s.data.toList≠ [])(hv:decV s.data.toList<=9223372036854775807)(w:World):
  Calls Tryz.prog 196 #[.string s,.int .i64 10,.int .i64 64] w λe w'=>e= .returned (.tuple #[.int .i64 (decV s.data.toList),.nilIface])/\Below w.heap.size w w':=by
 refine(Tryz.strconv_ParseInt_10_at64_ok s (by omega) (decV s.data.toList) (by rw[zdj _ hd hn,if_pos hv]) w).mono ?_;rintro e w' ⟨rfl,h⟩;refine⟨rfl,?_⟩;rcases h with rfl|⟨t,rfl⟩
 ·exact Below.refl _ _
 ·exact zdN _ _ _
theorem zna (s:ByteArray)(hs:s.size<=4096)(hd:zbV s.data.toList)(hn:s.data.toList≠ [])(hv:¬decV s.data.toList<=9223372036854775807)(w:World)(he:LexEnv w):
  Calls Tryz.prog 196 #[.string s,.int .i64 10,.int .i64 64] w λe w'=>∃n t p,e= .returned (.tuple #[.int .i64 n,.iface t p])/\Below w.heap.size w w':=by
 obtain⟨tp,p,SM⟩:=he.er;refine(Tryz.strconv_ParseInt_10_at64_range_var s (by omega) (by rw[zdj _ hd hn,if_neg hv]) tp p w SM).mono ?_;rintro e w' ⟨N,rfl,_,_,hb⟩;exact⟨_,_,_,rfl,hb⟩
theorem zli (n:Nat)(hn:n<=9223372036854775807)(w:World)(he:LexEnv w):
  Calls Tryz.prog 197 #[.int .i64 n,.int .i64 10] w λe w'=>e= .returned (.string ⟨(Lib.itoa (n:Int)).toArray⟩)/\Below w.heap.size w w':=by
 refine(Tryz.strconv_FormatInt_10 (n:Int) (by omega) (by omega) w he.tab).mono ?_;rintro e w' ⟨rfl,k,os,rfl⟩;exact⟨rfl,zhV _ _ _⟩
