/-
  law10: printed, alive; PrintNames.
-/
import Derived.Test.YtobegfbdedgmpaaGreatDoorJnPnV
import Derived.Test.YtobegfbdedgmpaaGreatDoorJnPs
import Derived.Test.YtobegfbdedgmpaaGreatDoorJnPnG
set_option linter.unusedVariables false
set_option linter.unusedSimpArgs false
set_option maxHeartbeats 1600000
set_option maxRecDepth 100000
namespace Go.Proofs.YtobegfbdedgmpaaGreatDoor
open Go.RowKit Go.Shelf

def prB (t:Tre):List UInt8:=if okTr t=true then printB t else []
def prE (t:Tre):Int:=if okTr t=true then 0 else 8
theorem print_any (t:Tre) (w:World) (S:Nat→Prop) (Z:Prop) (Av Aa Ap Am:Option Addr) (cv ca cp cm:Nat) (he:NameEnv w) (hS:∀b,S b→b < w.heap.size) (hsz:SzT t) (hx:TrR w S Z t Av Aa Ap Am cv ca cp cm) (hlen:okTr t=true→sumT (treT t)≤140737488355328):
  Calls Tryz.prog 16 #[trV t Av Aa Ap Am cv ca cp cm] w fun e w'=>e= .returned (.tuple #[.string ⟨(prB t).toArray⟩,.int .i64 (prE t)])∧Fr NoT w w':=by
 cases ht:okTr t
 ·unfold prB prE
  rw[ht]
  exact print_bad t w S Z Av Aa Ap Am cv ca cp cm he.toSp hS hsz hx ht
 ·unfold prB prE
  rw[ht]
  exact print_ok t w S Z Av Aa Ap Am cv ca cp cm he.toSp he.lex.tab hS hsz hx ht (hlen ht)
def prtB (l:List UInt8):List UInt8:=if(parseB l).2.2 =0∧prE (parseB l).1 =0 then prB (parseB l).1 else []
theorem printed_any (s:ByteArray) (hs:s.size≤9223372036854775807) (w:World) (he:NameEnv w) (hsz:SzT (parseB s.data.toList).1) (hlen:okTr (parseB s.data.toList).1 =true→sumT (treT (parseB s.data.toList).1)≤140737488355328):
  Calls Tryz.prog 33 #[.string s] w fun e w'=>e= .returned (.string ⟨(prtB s.data.toList).toArray⟩)∧Fr NoT w w':=by
 have h1:=parse_any s hs w he
 obtain⟨TX,hTX⟩:∃y,y=prtB s.data.toList:=⟨_,rfl⟩
 have hT2:TX=if(parseB s.data.toList).2.2 =0∧prE (parseB s.data.toList).1 =0 then prB (parseB s.data.toList).1 else []:=hTX
 rw[←hTX]
 clear hTX
 obtain⟨⟨t,a,e⟩,hq⟩:∃y,y=parseB s.data.toList:=⟨_,rfl⟩
 rw[←hq]at h1 hsz hlen hT2
 simp only at hsz hlen hT2
 have h2:=fun(W:World) (S:Nat→Prop) (Av Aa Ap Am:Option Addr) (cv ca cp cm:Nat) (hf:Fr NoT w W) (hS:∀b,S b→b < W.heap.size) (hx:TrR W S False t Av Aa Ap Am cv ca cp cm)=>print_any t W S False Av Aa Ap Am cv ca cp cm (he.keep hf.plain) hS hsz hx hlen
 obtain⟨pb,hpb⟩:∃y,y=prB t:=⟨_,rfl⟩
 obtain⟨pe,hpe⟩:∃y,y=prE t:=⟨_,rfl⟩
 rw[←hpb,←hpe]at h2 hT2
 obtain⟨n1,hn1⟩:∃n,n=t.vars.length:=⟨_,rfl⟩
 obtain⟨n2,hn2⟩:∃n,n=t.arrays.length:=⟨_,rfl⟩
 obtain⟨n3,hn3⟩:∃n,n=t.procs.length:=⟨_,rfl⟩
 obtain⟨n4,hn4⟩:∃n,n=t.main.len:=⟨_,rfl⟩
 unfold ParsP at h1
 unfold trV at h1 h2
 simp only at h1
 rw[←hn1,←hn2,←hn3,←hn4]at h1 h2
 have H1:=Lib.hid h1
 have H2:=Lib.hid h2
 have HT:=Lib.hid hT2
 have hc:((e != 0)=true∧TX= [])∨((e != 0)=false∧(pe != 0)=true∧TX= [])∨((e != 0)=false∧(pe != 0)=false∧TX=pb):=by
  by_cases h:e=0
  ·by_cases h':pe=0
   ·exact .inr (.inr ⟨by simpa using h,by simpa using h',by rw[hT2,if_pos ⟨h,h'⟩]⟩)
   ·exact .inr (.inl ⟨by simpa using h,by simpa using h',by rw[hT2,if_neg (fun hh=>h' hh.2)]⟩)
  ·exact .inl ⟨by simpa using h,by rw[hT2,if_neg (fun hh=>h hh.1)]⟩
 clear h1 h2 hT2 hsz hlen hq hpb hpe hn1 hn2 hn3 hn4 he hs
 go_enter Tryz.func33,Tryz.ntmps33
 go_wp2_with fail
 refine H1.out.mono ?_
 rintro _ w1 ⟨Av,Aa,Ap,Am,cv,ca,cp,cm,rfl,hT,hb⟩
 obtain⟨W,hW⟩:∃W,W=w1.alloc (.cells #[.slice Av n1 cv,.slice Aa n2 ca,.slice Ap n3 cp,.slice Am n4 cm] 27):=⟨_,rfl⟩
 have hf:Fr NoT w1 W:=by rw[hW];exact(Fr.refl _ _).alloc _
 have HC:=Lib.hid (H2.out W (New w.heap.size w1) Av Aa Ap Am cv ca cp cm ((Fr.below hb).trans hf) (fun b hb=>Nat.lt_of_lt_of_le hb.2 hf.size) (hT.keep (hf.same fun b hb=>⟨hb.2,id⟩)))
 have HWE:=Lib.hid hW
 have HF:=Lib.hid ((Fr.below (T:=NoT) hb).trans hf)
 clear hT hb hW hf H1 H2
 go_wp2_with fail
 rw[←HWE.out]
 refine HC.out.mono ?_
 rintro _ w2 ⟨rfl,hf2⟩
 have HF2:=Lib.hid (HF.out.trans hf2)
 clear hf2 HC
 rcases hc with⟨e1,rfl⟩|⟨e1,e2,rfl⟩|⟨e1,e2,rfl⟩
 all_goals
  go_wp2_with fail
  go_ret
  exact⟨rfl,HF2.out⟩
def pa0:List UInt8:= [118,97,114,32,32,120,32,59,32,109,97,105,110,32,123,32,120,32,61,32,40,40,120,41,32,43,32,50,41,32,42,32,51,32,59,32,125]
theorem pa_prt:prtB pa0= [118,97,114,32,120,59,109,97,105,110,123,120,61,40,120,43,50,41,42,51,59,125]:=by kernel_rfl

def TruePost (W:World) (e:Ending) (w':World):Prop:=e= .returned (.bool true)∧Below W.heap.size W w'
theorem pa_ok:okTr (parseB pa0).1 =true:=by kernel_rfl
theorem pa_room:decide (sumT (treT (parseB pa0).1)≤140737488355328)=true:=by kernel_rfl
theorem palive_any (w:World) (he:NameEnv w):Calls Tryz.prog 14 #[] w (TruePost w):=by
 have h1:=printed_any ⟨pa0.toArray⟩ (by decide) w he (szT_ok pa_ok) (fun _=>of_decide_eq_true pa_room)
 rw[show(⟨pa0.toArray⟩:ByteArray).data.toList =pa0 from rfl,pa_prt]at h1
 unfold pa0 at h1
 have H1:=Lib.hid h1
 have HE:(⟨#[118,97,114,32,120,59,109,97,105,110,123,120,61,40,120,43,50,41,42,51,59,125]⟩:ByteArray).toList = [118,97,114,32,120,59,109,97,105,110,123,120,61,40,120,43,50,41,42,51,59,125]:=by kernel_rfl
 clear h1 he
 go_enter Tryz.func14,Tryz.ntmps14
 go_wp2_with fail
 refine H1.out.mono ?_
 rintro _ w1 ⟨rfl,hf⟩
 have HF:=Lib.hid hf
 clear hf H1
 go_wp2_with fail
 go_ret
 exact⟨rfl,HF.out.plain⟩
end Go.Proofs.YtobegfbdedgmpaaGreatDoor

