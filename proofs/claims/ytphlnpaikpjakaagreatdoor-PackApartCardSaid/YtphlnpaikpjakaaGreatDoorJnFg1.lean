/-
  The graph of a tree without procedures, plainly. No program.
-/
import Derived.Test.YtphlnpaikpjakaaGreatDoorJnCk3
import Derived.Test.YtphlnpaikpjakaaGreatDoorJnInE
set_option linter.unusedVariables false
set_option linter.unusedSimpArgs false
namespace Go.Proofs.YtphlnpaikpjakaaGreatDoor
open Go.RowKit

abbrev NoN:=List UInt8→Option Int
def NoN.get (f:NoN) (nm:ByteArray):Int:=(f nm.data.toList).getD 0
def numN (sc ar:NoN) (k:Int) (nm:ByteArray) (n:Int):Int:=if k=2 then sc.get nm else if k=3 then ar.get nm else n
def numX (sc ar:NoN):Exs→Exs
 | .nil => .nil
 | .cons k nm n args at_ r=> .cons k nm (numN sc ar k nm n) (numX sc ar args) at_ (numX sc ar r)
theorem numX_len (sc ar:NoN):∀xs:Exs,(numX sc ar xs).len =xs.len
 | .nil =>rfl
 | .cons _ _ _ _ _ r=>by simp only[numX,Exs.len,numX_len sc ar r]
structure FgS where
 nodes:Int
 edges:List Ed
def FgS.node (s:FgS):FgS:=⟨s.nodes+1,s.edges⟩
def FgS.put (sc ar:NoN) (from_ to_ at_ kind n cmp:Int) (args:Exs) (s:FgS):FgS:=⟨s.nodes,s.edges++ [⟨from_,to_,kind,n,cmp,numX sc ar args,at_⟩]⟩
def oppK (k:Int):Int:=if k=3 then 6 else if k=6 then 3 else if k=4 then 5 else if k=5 then 4 else if k=7 then 8 else if k=8 then 7 else 0
abbrev Way:=Int→Int→Int→FgS→FgS
def nthW (l:List Way) (i:Nat):Way:=l.getD i (fun _ _ _ s=>s)
def wayC (sc ar:NoN) (k:Int) (args:Exs) (of_:List Way) (at_:Int):Way:=fun f y n s=>
 if k=1 then s.put sc ar f y at_ 1 0 0 .nil
 else if k=2 then s.put sc ar f n at_ 1 0 0 .nil
 else if k=9 then nthW of_ 0 f n y s
 else if k=10 then nthW of_ 1 s.nodes y n (nthW of_ 0 f s.nodes n s.node)
 else if k=11 then nthW of_ 1 s.nodes y n (nthW of_ 0 f y s.nodes s.node)
 else(s.put sc ar f y at_ 6 0 k args).put sc ar f n at_ 6 0 (oppK k) args
def waysC (sc ar:NoN):Cds→List Way
 | .nil => []
 | .cons k args of_ at_ r=>wayC sc ar k args (waysC sc ar of_) at_::waysC sc ar r
abbrev Mk:=Int→Int→FgS→FgS
def blkF (sc ar:NoN):List Mk→Int→Int→Int→FgS→FgS
 | [],f,t,a,s=>s.put sc ar f t a 1 0 0 .nil
 | [m],f,t,_,s=>m f t s
 |m::m'::r,f,t,a,s=>blkF sc ar (m'::r) s.nodes t a (m f s.nodes s.node)
def stmF (sc ar:NoN) (k:Int) (nm:ByteArray) (args:Exs) (c:List Way) (b e:List Mk) (a:Int):Mk:=fun f t s=>
 if k=1 then s.put sc ar f t a 2 0 0 .nil
 else if k=2 then s.put sc ar f t a 3 (sc.get nm) 0 args
 else if k=3 then s.put sc ar f t a 4 (ar.get nm) 0 args
 else if k=4 then s.put sc ar f t a 5 (sc.get nm) 0 .nil
 else if k=5 then(nthW c 0 f t s.nodes s.node).put sc ar s.nodes 1 a 8 0 0 .nil
 else if k=6 then(nthW c 0 f t s.nodes s.node).put sc ar s.nodes 1 a 7 0 0 .nil
 else if k=7 then blkF sc ar e (s.nodes+1) t a (blkF sc ar b s.nodes t a (nthW c 0 f s.nodes (s.nodes+1) s.node.node))
 else if k=8 then blkF sc ar b (s.nodes+2) s.nodes a (nthW c 0 (s.nodes+1) (s.nodes+2) t ((s.node.node.node.put sc ar f s.nodes a 1 0 0 .nil).put sc ar s.nodes (s.nodes+1) a 2 0 0 .nil))
 else s
def mksS (sc ar:NoN):Sts→List Mk
 | .nil => []
 | .cons k nm args cond body els at_ r=>stmF sc ar k nm args (waysC sc ar cond) (mksS sc ar body) (mksS sc ar els) at_::mksS sc ar r
def numsV (l:List (List UInt8)):NoN:=fun t=>(l.zipIdx.reverse.find? fun x=>x.1==t).map fun x=>(x.2:Int)
def grF (t:Tre):FgS:=blkF (numsV (t.vars.map (·.nm.data.toList))) (numsV (t.arrays.map (·.nm.data.toList))) (mksS (numsV (t.vars.map (·.nm.data.toList))) (numsV (t.arrays.map (·.nm.data.toList))) t.main) 0 1 0 ⟨2, []⟩

open Go.RowKit Go.Shelf

def NoM (w:World) (b n:Nat) (f:NoN):Prop:=MpV w b n fun t=>(f t).map (.int .i64)
theorem zeroInt (w:World):(zeroValue 3).run Tryz.prog w= .ok (.int .i64 0) w:=by kernel_rfl
theorem NoM.look {w:World} {b n:Nat} {f:NoN} (h:NoM w b n f) {s:ByteArray} (hs:s.size≤9223372036854775807):
  (Instr.lookup 83 (.map (some b)) (.string s) false).run Tryz.prog w= .ok (.int .i64 (f.get s)) w:=by
 rw[MpV.get h Tryz.underlying83 hs (zeroInt w)]
 unfold NoN.get
 cases f s.data.toList<;>rfl
theorem NoM.fr {w w':World} {b n:Nat} {f:NoN} (h:NoM w b n f) {T:Nat→Prop} (hf:Fr T w w') (ht:¬T b):NoM w' b n f:=MpV.fr h hf ht
structure MkN (w:World) (b:Nat) (sc ar:NoN):Prop where
 maps:∃v0 v1 v2 v3 v4 v5 mS mA nS nA,Bk w b 85 #[v0,v1,v2,v3,v4,v5,.map (some mS),.map (some mA)]∧NoM w mS nS sc∧NoM w mA nA ar
theorem MkN.fr0 {w w':World} {b:Nat} {sc ar:NoN} (h:MkN w b sc ar) (hf:Fr NoT w w'):MkN w' b sc ar:=by
 obtain⟨v0,v1,v2,v3,v4,v5,mS,mA,nS,nA,h1,h2,h3⟩:=h.maps
 exact⟨v0,v1,v2,v3,v4,v5,mS,mA,nS,nA,h1.fr0 hf,h2.fr hf id,h3.fr hf id⟩
def szQ:Exs→Prop
 | .nil =>True
 | .cons _ nm _ args _ r=>nm.size≤9223372036854775807∧szQ args∧szQ r
def NoR (f:NoN):Prop:=∀s:ByteArray,in64 (f.get s)
def FxP (xs:Exs) (W:World) (e:Ending) (w':World):Prop:=∃A c,e= .returned (.slice A xs.len c)∧SlR (fun b o=>ExR w' (New W.heap.size w') False xs b o) xs.len 64 A c∧Fr NoT W w'
structure FxX (sc ar:NoN) (W:World) (xs:Exs) (v:Value) (wr:World) (acc:List Ex) (cs:List Value) (k:Nat):Prop where
 row:wr.ownsRow W.heap.size 68 5 v acc.length cs
 rows:RowR oneX wr (NewR W.heap.size v wr) acc cs
 fr:Fr NoT W wr
 eq:exApp acc (numX sc ar (Exs.drop k xs))=numX sc ar xs
 len:acc.length=k
def FxC (sc ar:NoN) (xs:Exs):Prop:=∀(W:World) (S:Nat→Prop) (Z:Prop) (A:Option Addr) (c mb:Nat),MkN W mb sc ar→(∀b,S b→b < W.heap.size)→szQ xs→SlR (fun b o=>ExR W S Z xs b o) xs.len 64 A c→Calls Tryz.prog 110 #[.pointer (some ⟨mb,0,none⟩),.slice A xs.len c] W (FxP (numX sc ar xs) W)
def FxI (sc ar:NoN) (xs:Exs):Prop:=∀(i:Nat) (a0:Int) (a1:ByteArray) (a2:Int) (a3:Exs) (a4:Int) (ar':Exs),Exs.drop i xs= .cons a0 a1 a2 a3 a4 ar'→a1.size≤9223372036854775807∧szQ a3∧FxC sc ar a3
set_option maxRecDepth 100000 in
set_option maxHeartbeats 1600000 in
theorem fx_one (sc ar:NoN) (r1':NoR sc) (r2':NoR ar) (xs:Exs) (hall0:FxI sc ar xs):FxC sc ar xs:=by
 intro w S Z A c mb hmk hS _ hx
 obtain⟨i0,hi,hz0,hz1,hz2⟩:=info_parts infoEx
 have HI:=hdq (aiq hi (aiq hz0 (aiq hz1 hz2)))
 have hl:xs.len≤9223372036854775807:=leq9 hx.1 hx.2.1.1
 have HMK:=hdq hmk
 have HRR:=hdq (aiq r1' r2')
 have HA:=hdq hall0
 have HX:=hdq hx
 have HS:=hdq hS
 obtain⟨m,hm⟩:=nmq xs.len
 have HBIG:=hdq (show m*64≤140737488355328 from by rw[hm];exact hx.2.1.2)
 rw[←hm]at hl ⊢
 have HM:=hdq hm
 have HU0:=hdq (show FxX sc ar w xs (.slice none 0 0) w [] [] 0 from⟨World.ownsRow_nil _ _ _ _,rfl,Fr.refl _ _,rfl,rfl⟩)
 clear hall0 hmk r1' r2' hx hS hm hi hz0 hz1 hz2
 go_enter Tryz.func110,Tryz.ntmps110
 go_wp2_with fail
 go_loopw [4,9] (fun v i wr=>∃k:Nat,k≤m∧i= .int .i64 k∧∃(acc:List Ex) (cs:List Value),Hid (FxX sc ar w xs v wr acc cs k)) (fun v i _=>m - (intOf i).toNat)
 case atStart=>exact⟨0,Nat.zero_le _,rfl, [], [],HU0⟩
 case round=>
  clear HU0
  obtain⟨k,hk,rfl,acc,cs,hb⟩:=hrel
  by_cases hlt:k < m
  ·obtain⟨a0,a1,a2,a3,a4,ar',hd⟩:=Exs.drop_cons (show k < xs.len from by rw[←HM.out];exact hlt)
   obtain⟨b,o,rfl,hat⟩:=HX.out.2.2 (by rw[←HM.out];omega)
   have hat1:=(ExR.keep (hb.out.fr.same fun b hb=>⟨HS.out b hb,id⟩) hat).drop k
   rw[hd]at hat1
   obtain⟨⟨hbS,_,r0,r1,r2,c0,c1,c2,c4⟩,⟨A3,q3,c3,s3⟩,_⟩:=hat1
   have hxr:b < wr.heap.size:=ltq (HS.out _ hbS) hb.out.fr.size
   have hlt':(k:Int) < (m:Int):=by omega
   have hge:(0:Int)≤(k:Int):=by omega
   obtain⟨l3,hl3⟩:=nmq a3.len
   rw[←hl3]at c3
   obtain⟨hs1,hs3,h7⟩:=HA.out k a0 a1 a2 a3 a4 ar' hd
   obtain⟨v0,v1,v2,v3,v4,v5,mS,mA,nS,nA,hkb,hmS,hmA⟩:=HMK.out.maps
   obtain⟨wX,hwX⟩:=nmq (wr.alloc (.cells #[.int .u8 a0,.string a1,.int .i64 a2,.slice A3 l3 q3,.int .i64 a4] 68))
   have hfX:Fr NoT wr wX:=by rw[hwX];exact(Fr.refl _ _).alloc _
   have hkX:Bk wX wr.heap.size 68 #[.int .u8 a0,.string a1,.int .i64 a2,.slice A3 l3 q3,.int .i64 a4]:=by
    rw[hwX];exact Bk.new _ _ _
   have hkb2:=hkb.fr0 (hb.out.fr.trans hfX)
   have y6:=hkb2.cell 6
   have y7:=hkb2.cell 7
   have yl:=hkb2.lt
   simp only[getsL]at y6 y7
   have hl6:=(hmS.fr ((hb.out.fr.trans hfX).drew) id).look hs1
   have hl7:=(hmA.fr ((hb.out.fr.trans hfX).drew) id).look hs1
   have HWX:=hdq hwX
   obtain⟨n5,hn5⟩:=nmq (numN sc ar a0 a1 a2)
   have hin5:in64 n5:=by
    rw[hn5]
    unfold numN
    split
    ·exact HRR.out.1 a1
    ·split
     ·exact HRR.out.2 a1
     ·exact r1
   have hk3:((a0==2)=true∧n5=sc.get a1)∨((a0==2)=false∧(a0==3)=true∧n5=ar.get a1)∨((a0==2)=false∧(a0==3)=false∧n5=a2):=by
    rw[hn5]
    unfold numN
    by_cases e2:a0=2
    ·exact .inl ⟨by simpa using e2,if_pos e2⟩
    ·by_cases e3:a0=3
     ·exact .inr (.inl ⟨by simpa using e2,by simpa using e3,by rw[if_neg e2,if_pos e3]⟩)
     ·exact .inr (.inr ⟨by simpa using e2,by simpa using e3,by rw[if_neg e2,if_neg e3]⟩)
   have p0:=hkX.cell 0
   have p1:=hkX.cell 1
   have p2:=hkX.cell 2
   have p3:=hkX.cell 3
   have p4:=hkX.cell 4
   have pz:=hkX.frozen 2
   have pl:=hkX.lt
   simp only[getsL]at p0 p1 p2 p3 p4
   have HN5:=hdq hn5
   have HSL:=hdq (s3.imp fun _ _ (hx:ExR wr S Z a3 _ _)=>ExR.keep (hfX.same fun b h=>⟨ltq (HS.out b h) hb.out.fr.size,id⟩) hx)
   have HSX:=hdq (show ∀b,S b→b < wr.heap.size from fun b h=>ltq (HS.out b h) hb.out.fr.size)
   have HMX:=hdq (HMK.out.fr0 (hb.out.fr.trans hfX))
   have HKX:=hdq hkX
   have HFX:=hdq hfX
   have HMB:=hdq (show mb < wr.heap.size from by
    have:=(hkb.fr0 hb.out.fr).lt
    exact this)
   have HREC:=hdq (show ∀w5,Fr NoT wr w5→Fr (fun b=>b=wr.heap.size) wX w5→Calls Tryz.prog 110 #[.pointer (some ⟨mb,0,none⟩),.slice A3 l3 q3] w5 (FxP (numX sc ar a3) w5)from fun w5 h1 h2=>by
    have h9:=h7 w5 S Z A3 q3 mb (HMK.out.fr0 (hb.out.fr.trans h1)) (fun b hb'=>ltq (HSX.out b hb') h1.size) hs3 (HSL.out.imp fun _ _ hx=>ExR.keep (h2.same fun b hb'=>⟨ltq (HSX.out b hb') hfX.size,fun e=>by have:=HSX.out b hb';have e:b=wr.heap.size:=e;omega⟩) hx)
    rw[←hl3]at h9
    exact h9)
   have HD:=hdq hd
   have HR:=hdq (aiq r0 (aiq hin5 r2))
   have hmw:mb < wX.heap.size:=yl
   clear hd hat hbS s3 r0 r1 r2 hl3 h7 hs1 hs3 hkb hmS hmA hfX hkX hkb2 hwX hn5 hin5
   rcases hk3 with⟨k2,hn⟩|⟨k2,k3,hn⟩|⟨k2,k3,hn⟩
   case' inl=>
    go_upto_region 6 with fail
    rw[←HWX.out]
    refine wp_region_still_tail 7 (by kernel_rfl) (by kernel_rfl) ?_
    simp only[List.take_succ_cons,List.take_zero,List.drop_succ_cons,List.drop_zero]
    repeat still_step
    try refine wpStill_nil ?_
    obtain⟨w5,hw5⟩:=nmq ((wX.setCell ⟨wr.heap.size,2,none⟩ (.int .i64 n5)).drew )
    have HF5:=hdq (show Fr NoT wr w5 from by rw[hw5];exact(Fr.high HFX.out (lrq _) _ _).drew)
    have HX5:=hdq (show Fr (fun b=>b=wr.heap.size) wX w5 from by rw[hw5];exact(Fr.own (Fr.refl _ _) _ _).drew)
    have HK5:=hdq (show Bk w5 wr.heap.size 68 #[.int .u8 a0,.string a1,.int .i64 n5,.slice A3 l3 q3,.int .i64 a4]from by
     have:=HKX.out.set_ 2 (.int .i64 n5)
     rw[hw5];exact Bk.fr0 (by simpa using this) ((Fr.refl _ _).drew))
    rw[hn]at hw5
    have HW5:=hdq hw5
    clear hw5 hn k2
    go_wp2_with fail
    rw[←HW5.out]
   case' inr.inl=>
    go_upto_region 8 with fail
    rw[←HWX.out]
    refine wp_region_still_tail 7 (by kernel_rfl) (by kernel_rfl) ?_
    simp only[List.take_succ_cons,List.take_zero,List.drop_succ_cons,List.drop_zero]
    repeat still_step
    try refine wpStill_nil ?_
    obtain⟨w5,hw5⟩:=nmq ((wX.setCell ⟨wr.heap.size,2,none⟩ (.int .i64 n5)).drew )
    have HF5:=hdq (show Fr NoT wr w5 from by rw[hw5];exact(Fr.high HFX.out (lrq _) _ _).drew)
    have HX5:=hdq (show Fr (fun b=>b=wr.heap.size) wX w5 from by rw[hw5];exact(Fr.own (Fr.refl _ _) _ _).drew)
    have HK5:=hdq (show Bk w5 wr.heap.size 68 #[.int .u8 a0,.string a1,.int .i64 n5,.slice A3 l3 q3,.int .i64 a4]from by
     have:=HKX.out.set_ 2 (.int .i64 n5)
     rw[hw5];exact Bk.fr0 (by simpa using this) ((Fr.refl _ _).drew))
    rw[hn]at hw5
    have HW5:=hdq hw5
    clear hw5 hn k2 k3
    go_wp2_with fail
    rw[←HW5.out]
   case' inr.inr=>
    go_wp2_with fail
    rw[←HWX.out]
    obtain⟨w5,hw5⟩:=nmq wX
    rw[←hw5]
    have HF5:=hdq (show Fr NoT wr w5 from by rw[hw5];exact HFX.out)
    have HX5:=hdq (show Fr (fun b=>b=wr.heap.size) wX w5 from by rw[hw5];exact Fr.refl _ _)
    have HK5:=hdq (show Bk w5 wr.heap.size 68 #[.int .u8 a0,.string a1,.int .i64 n5,.slice A3 l3 q3,.int .i64 a4]from by rw[hw5,hn];exact HKX.out)
    clear hw5 hn k2 k3
   all_goals
    have H7:=hdq (HREC.out w5 HF5.out HX5.out)
    clear p0 p1 p2 p3 p4 pz pl y6 y7 yl hmw hl6 hl7 c0 c1 c2 c3 c4 hxr HREC HX5
    refine H7.out.mono ?_
    rintro _ w7 ⟨A4,q4,rfl,s4,hf7⟩
    have hk7:=HK5.out.fr0 hf7
    have x0:=hk7.cell 0
    have x1:=hk7.cell 1
    have x2:=hk7.cell 2
    have x3:=hk7.cell 3
    have x4:=hk7.cell 4
    have z3:=hk7.frozen 3
    have xl:=hk7.lt
    simp only[getsL]at x0 x1 x2 x3 x4
    obtain⟨l4,hl4⟩:=nmq ((numX sc ar a3).len )
    rw[←hl4]
    have HL4:=hdq hl4
    -- the world ahead of the append
    obtain⟨w8,hw8⟩:=nmq (w7.setCell ⟨wr.heap.size,3,none⟩ (.slice A4 l4 q4))
    obtain⟨w9,hw9⟩:=nmq (w8.alloc (.cells #[.int .u8 a0,.string a1,.int .i64 n5,.slice A4 l4 q4,.int .i64 a4] 68))
    have hf79:Fr (fun b=>b=wr.heap.size) w7 w9:=by rw[hw9,hw8];exact(Fr.own (Fr.refl _ _) 3 _).alloc _
    have hf9:Fr NoT wr w9:=by rw[hw9,hw8];exact(Fr.high (HF5.out.trans hf7) (lrq _) _ _).alloc _
    have hk9:Bk w9 w7.heap.size 68 ([.int .u8 a0,.string a1,.int .i64 n5,.slice A4 l4 q4,.int .i64 a4]:List Value).toArray :=by rw[hw9];exact Bk.new_at _ _ _ (by rw[hw8];simp)
    have hrow9:=World.ownsRow.kept (w':=w9) hb.out.row (row:=none) ⟨hf9.os,hf9.tape,hf9.output,hf9.size,fun i hi _=>hf9.block i hi id⟩ (Classical.em _)
    have HROW9:=hdq hrow9
    have HK9:=hdq hk9
    have HF79:=hdq hf79
    have HF9:=hdq hf9
    have HF7:=hdq hf7
    have HS4:=hdq s4
    have hz9:w.heap.size≤w9.heap.size:=leq9 hb.out.fr.size hf9.size
    have hbig:(acc.length+1)*64≤140737488355328:=by have:=HBIG.out;have:=hb.out.len;omega
    have hacc:acc.length+1≤9223372036854775807:=by have:=hb.out.len;omega
    have HW9:=hdq hw9
    have HW8:=hdq hw8
    clear hl4 hw8 hw9 hf79 hf9 hk9 hrow9 hk7 hf7 s4
    go_wp2_with (at_builtin;rw[←HW8.out,←HW9.out];refine wpList_append_spot _ rfl _ _ 35 rfl w.heap.size 68 i0 (.agg #[.int .u8 0,.string ⟨#[]⟩,.int .i64 0,.slice none 0 0,.int .i64 0]) 5 64 Tryz.underlying35 HI.out.1 HI.out.2.1 HI.out.2.2.1 HI.out.2.2.2 rfl (by decide) _ _ _ rfl HROW9.out ⟨w7.heap.size,0,none⟩ 1 1 _ rfl rfl HK9.out.newsL ?c2 (by decide) ?c3 hbig hz9 ?_)
    case c2=>
     intro u hu
     simp only[List.mem_cons,List.not_mem_nil,or_false]at hu
     rcases hu with rfl|rfl|rfl|rfl|rfl<;>rfl
    case c3=>unfold maxLen;omega
    intro v' w10 hown hgrow hspot
    have hz57:wr.heap.size < w7.heap.size:=xl
    have hst:=RowR.step oneX_keep hb.out.row hb.out.fr.size hb.out.rows HF9.out (y:=(⟨a0,a1,n5,numX sc ar a3,a4⟩:Ex)) (zs:= [.int .u8 a0,.string a1,.int .i64 n5,.slice A4 l4 q4,.int .i64 a4])
     ⟨A4,q4,by rw[HL4.out],HR.out.1,HR.out.2.1,HR.out.2.2,HS4.out.imp fun _ _ h=>ExR.more (fun b hb=>⟨by have h1:=hb.1;have:=HF5.out.size;omega,by have h2:=hb.2;have:=HF79.out.size;omega⟩) (ExR.keep (HF79.out.same fun b hb=>⟨hb.2,fun e=>by have e:b=wr.heap.size:=e;have h1:=hb.1;have:=HK5.out.lt;omega⟩) h)⟩ hgrow hspot
    have hlen:(acc++ [(⟨a0,a1,n5,numX sc ar a3,a4⟩:Ex)]).length =acc.length+1:=by simp
    have HNX:=hdq (show FxX sc ar w xs v' w10 (acc++ [⟨a0,a1,n5,numX sc ar a3,a4⟩]) (cs++ [.int .u8 a0,.string a1,.int .i64 n5,.slice A4 l4 q4,.int .i64 a4]) (k+1)from
     ⟨by rw[hlen];exact hown,hst.1,Fr.back1 hb.out.fr hst.2 (lrq _),by
      rw[exApp_snoc,Exs.drop_succ k xs HD.out,←hb.out.eq,HD.out];simp only[numX];rw[←HN5.out];rfl,by rw[hlen,hb.out.len]⟩)
    clear hown hgrow hspot hst hlen hbig hacc hz9 x0 x1 x2 x3 x4 z3 xl
    go_wp2_with fail
    go_roundw
    case rel=>exact⟨k+1,by omega,by go_num,_,_,HNX⟩
    case measure=>simp[intOf];omega
  ·have hlt':¬(k:Int) < (m:Int):=by omega
   have hkm:k=m:=by omega
   have hle:(numX sc ar xs).len =acc.length:=by rw[numX_len,←HM.out,hb.out.len,hkm]
   have heq:(numX sc ar xs)=exsOf acc:=by
    rw[←exApp_nil,←hb.out.eq,Exs.drop_nil (by rw[←HM.out];omega)];rfl
   obtain⟨A',c',he,hsl⟩:=RowR.slice oneX_keep (sz:=64) hb.out.row hb.out.rows (by rw[hb.out.len,hkm];exact HBIG.out) (P:=fun b o=>ExR wr (New w.heap.size wr) False (numX sc ar xs) b o) fun g hg hr hc=>by
    rw[heq];exact rowX (o:=0) hg hr fun j u hj=>by rw[Nat.zero_add];exact hc j u hj
   have HE:=hdq he
   have HSL:=hdq hsl
   have HLE:=hdq hle
   clear heq hle he hsl
   go_wp2_with fail
   go_ret
   refine⟨A',c',?_,?_,hb.out.fr⟩
   ·rw[HLE.out,HE.out];rfl
   ·rw[HLE.out];exact HSL.out
theorem fxi_all (sc ar:NoN) (r1:NoR sc) (r2:NoR ar):∀xs:Exs,szQ xs→FxI sc ar xs
 | .nil,_,i,_,_,_,_,_,_,h=>by cases i<;>simp[Exs.drop]at h
 | .cons k nm n args at_ rest,hs,0,a0,a1,a2,a3,a4,ar',h=>by
  simp only[Exs.drop,Exs.cons.injEq]at h
  obtain⟨_,rfl,_,rfl,_,_⟩:=h
  exact⟨hs.1,hs.2.1,fx_one sc ar r1 r2 _ (fxi_all sc ar r1 r2 _ hs.2.1)⟩
 | .cons k nm n args at_ rest,hs,i+1,a0,a1,a2,a3,a4,ar',h=>by
  simp only[Exs.drop]at h
  exact fxi_all sc ar r1 r2 rest hs.2.2 i a0 a1 a2 a3 a4 ar' h
theorem numbered_any (sc ar:NoN) (r1:NoR sc) (r2:NoR ar) (xs:Exs) (hs:szQ xs):FxC sc ar xs:=fx_one sc ar r1 r2 xs (fxi_all sc ar r1 r2 xs hs)
end Go.Proofs.YtphlnpaikpjakaaGreatDoor
