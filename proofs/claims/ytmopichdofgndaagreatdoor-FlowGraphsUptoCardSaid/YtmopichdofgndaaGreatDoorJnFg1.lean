/- The graph of a tree without procedures, plainly. -/
import Derived.Test.YtmopichdofgndaaGreatDoorJnInE
set_option linter.all false
namespace Go.Proofs.YtmopichdofgndaaGreatDoor
open Go.RowKit
abbrev NoN:=List UInt8->Option Int
def NoN.get (f:NoN)(nm:ByteArray):Int:=(f nm.data.toList).getD 0
def numN (sc ar:NoN)(k:Int)(nm:ByteArray)(n:Int):Int:=if k=2 then sc.get nm else if k=3 then ar.get nm else n
def numX (sc ar:NoN):Exs->Exs
 | .nil => .nil
 | .cons k nm n args at_ r=> .cons k nm (numN sc ar k nm n) (numX sc ar args) at_ (numX sc ar r)
theorem zaY (sc ar:NoN):∀xs:Exs,(numX sc ar xs).len =xs.len
 | .nil =>rfl
 | .cons _ _ _ _ _ r=>by simp only[numX,Exs.len,zaY sc ar r]
structure FgS where
 nodes:Int
 edges:List Ed
def FgS.node (s:FgS):FgS:=⟨s.nodes+1,s.edges⟩
def FgS.put (sc ar:NoN)(from_ to_ at_ kind n cmp:Int)(args:Exs)(s:FgS):FgS:=⟨s.nodes,s.edges++ [⟨from_,to_,kind,n,cmp,numX sc ar args,at_⟩]⟩
def oppK (k:Int):Int:=if k=3 then 6 else if k=6 then 3 else if k=4 then 5 else if k=5 then 4 else if k=7 then 8 else if k=8 then 7 else 0
abbrev Way:=Int->Int->Int->FgS->FgS
def nthW (l:List Way)(i:Nat):Way:=l.getD i (λ_ _ _ s=>s)
def wayC (sc ar:NoN)(k:Int)(args:Exs)(of_:List Way)(at_:Int):Way:=λf y n s=>
 if k=1 then s.put sc ar f y at_ 1 0 0 .nil
 else if k=2 then s.put sc ar f n at_ 1 0 0 .nil
 else if k=9 then nthW of_ 0 f n y s
 else if k=10 then nthW of_ 1 s.nodes y n (nthW of_ 0 f s.nodes n s.node)
 else if k=11 then nthW of_ 1 s.nodes y n (nthW of_ 0 f y s.nodes s.node)
 else(s.put sc ar f y at_ 6 0 k args).put sc ar f n at_ 6 0 (oppK k) args
def zaw (sc ar:NoN):Cds->List Way
 | .nil => []
 | .cons k args of_ at_ r=>wayC sc ar k args (zaw sc ar of_) at_::zaw sc ar r
abbrev Mk:=Int->Int->FgS->FgS
def blkF (sc ar:NoN):List Mk->Int->Int->Int->FgS->FgS
 | [],f,t,a,s=>s.put sc ar f t a 1 0 0 .nil
 | [m],f,t,_,s=>m f t s
 |m::m'::r,f,t,a,s=>blkF sc ar (m'::r) s.nodes t a (m f s.nodes s.node)
def stmF (sc ar:NoN)(k:Int)(nm:ByteArray)(args:Exs)(c:List Way)(b e:List Mk)(a:Int):Mk:=λf t s=>
 if k=1 then s.put sc ar f t a 2 0 0 .nil
 else if k=2 then s.put sc ar f t a 3 (sc.get nm) 0 args
 else if k=3 then s.put sc ar f t a 4 (ar.get nm) 0 args
 else if k=4 then s.put sc ar f t a 5 (sc.get nm) 0 .nil
 else if k=5 then(nthW c 0 f t s.nodes s.node).put sc ar s.nodes 1 a 8 0 0 .nil
 else if k=6 then(nthW c 0 f t s.nodes s.node).put sc ar s.nodes 1 a 7 0 0 .nil
 else if k=7 then blkF sc ar e (s.nodes+1) t a (blkF sc ar b s.nodes t a (nthW c 0 f s.nodes (s.nodes+1) s.node.node))
 else if k=8 then blkF sc ar b (s.nodes+2) s.nodes a (nthW c 0 (s.nodes+1) (s.nodes+2) t ((s.node.node.node.put sc ar f s.nodes a 1 0 0 .nil).put sc ar s.nodes (s.nodes+1) a 2 0 0 .nil))
 else s
def mksS (sc ar:NoN):Sts->List Mk
 | .nil => []
 | .cons k nm args cond body els at_ r=>stmF sc ar k nm args (zaw sc ar cond) (mksS sc ar body) (mksS sc ar els) at_::mksS sc ar r
def zaS (l:List (List UInt8)):NoN:=λt=>(l.zipIdx.reverse.find? λx=>x.1==t).map λx=>(x.2:Int)
def grF (t:Tre):FgS:=blkF (zaS (t.vars.map (·.nm.data.toList))) (zaS (t.arrays.map (·.nm.data.toList))) (mksS (zaS (t.vars.map (·.nm.data.toList))) (zaS (t.arrays.map (·.nm.data.toList))) t.main) 0 1 0 ⟨2, []⟩
open Go.RowKit Go.Shelf
def NoM (w:World)(b n:Nat)(f:NoN):Prop:=MpV w b n λt=>(f t).map (.int .i64)
theorem zmK (w:World):(zeroValue 3).run Tryz.prog w= .ok (.int .i64 0) w:=by kernel_rfl
theorem NoM.look {w:World}{b n:Nat}{f:NoN}(h:NoM w b n f){s:ByteArray}(hs:s.size<=9223372036854775807):
  (Instr.lookup 132 (.map (some b)) (.string s) false).run Tryz.prog w= .ok (.int .i64 (f.get s)) w:=by
 rw[MpV.get h Tryz.underlying132 hs (zmK w)];unfold NoN.get;cases f s.data.toList<;>rfl
theorem NoM.fr {w w':World}{b n:Nat}{f:NoN}(h:NoM w b n f){T:Nat->Prop}(hf:Fr T w w')(ht:¬T b):NoM w' b n f:=MpV.fr h hf ht
structure MkN (w:World)(b:Nat)(sc ar:NoN):Prop where
 maps:∃v0 v1 v2 v3 v4 v5 mS mA nS nA,Bk w b 134 #[v0,v1,v2,v3,v4,v5,.map (some mS),.map (some mA)]/\NoM w mS nS sc/\NoM w mA nA ar
theorem MkN.fr0 {w w':World}{b:Nat}{sc ar:NoN}(h:MkN w b sc ar)(hf:Fr NoT w w'):MkN w' b sc ar:=by
 obtain⟨v0,v1,v2,v3,v4,v5,mS,mA,nS,nA,h1,h2,h3⟩:=h.maps;exact⟨v0,v1,v2,v3,v4,v5,mS,mA,nS,nA,h1.fr0 hf,h2.fr hf id,h3.fr hf id⟩
def szQ:Exs->Prop
 | .nil =>True
 | .cons _ nm _ args _ r=>nm.size<=9223372036854775807/\szQ args/\szQ r
def NoR (f:NoN):Prop:=∀s:ByteArray,in64 (f.get s)
def FxP (xs:Exs)(W:World)(e:Ending)(w':World):Prop:=∃A c,e= .returned (.slice A xs.len c)/\SlR (λb o=>ExR w' (New W.heap.size w') True xs b o) xs.len 64 A c/\Fr NoT W w'
structure FxX (sc ar:NoN)(W:World)(xs:Exs)(v:Value)(wr:World)(acc:List Ex)(cs:List Value)(k:Nat):Prop where
 row:wr.ownsRow W.heap.size 41 5 v acc.length cs
 rows:RowR oneX wr (NewR W.heap.size v wr) acc cs
 fr:Fr NoT W wr
 eq:zeb acc (numX sc ar (Exs.drop k xs))=numX sc ar xs
 len:acc.length=k
def FxC (sc ar:NoN)(xs:Exs):Prop:=∀(W:World)(S:Nat->Prop)(Z:Prop)(A:Option Addr)(c mb:Nat),MkN W mb sc ar->(∀b,S b->b < W.heap.size)->szQ xs->SlR (λb o=>ExR W S Z xs b o) xs.len 64 A c->Calls Tryz.prog 185 #[.pointer (some ⟨mb,0,none⟩),.slice A xs.len c] W (FxP (numX sc ar xs) W)
def FxI (sc ar:NoN)(xs:Exs):Prop:=∀(i:Nat)(a0:Int)(a1:ByteArray)(a2:Int)(a3:Exs)(a4:Int)(ar':Exs),Exs.drop i xs= .cons a0 a1 a2 a3 a4 ar'->a1.size<=9223372036854775807/\szQ a3/\FxC sc ar a3
set_option maxRecDepth 100000 in
set_option maxHeartbeats 1600000 in
theorem zmk (sc ar:NoN)(r1':NoR sc)(r2':NoR ar)(xs:Exs)(Ho:FxI sc ar xs):FxC sc ar xs:=by
 intro w S Z A c mb Q8 hS _ hx;obtain⟨i0,hi,Fe,Gh,Gn⟩:=info_parts zfH;have HI:=hdq (aiq hi (aiq Fe (aiq Gh Gn)));have hl:xs.len<=9223372036854775807:=leq9 hx.1 hx.2.1.1;have kt:=hdq Q8;have FJ:=hdq (aiq r1' r2');have HA:=hdq Ho;have HX:=hdq hx;have HS:=hdq hS;obtain⟨m,hm⟩:=nmq xs.len;have Ji:=hdq (show m*64<=140737488355328 from by rw[hm];exact hx.2.1.2);rw[<-hm]at hl ⊢;have HM:=hdq hm;have JJ:=hdq (show FxX sc ar w xs (.slice none 0 0) w [] [] 0 from⟨World.ownsRow_nil _ _ _ _,rfl,Fr.refl _ _,rfl,rfl⟩);clear Ho Q8 r1' r2' hx hS hm hi Fe Gh Gn;go_enter Tryz.func185,Tryz.ntmps185;go_wp2_with fail;go_loopw [4,9] (λv i wr=>∃k:Nat,k<=m/\i= .int .i64 k/\∃(acc:List Ex)(cs:List Value),Hid (FxX sc ar w xs v wr acc cs k)) (λv i _=>m - (intOf i).toNat);case atStart=>exact⟨0,Nat.zero_le _,rfl, [], [],JJ⟩
 case round=>
  clear JJ;obtain⟨k,hk,rfl,acc,cs,hb⟩:=hrel;by_cases Hr:k < m
  ·obtain⟨a0,a1,a2,a3,a4,ar',hd⟩:=Exs.drop_cons (show k < xs.len from by rw[<-HM.out];exact Hr);obtain⟨b,o,rfl,Hd⟩:=HX.2.2 (by rw[<-HM.out];omega);have Hb:=(ExR.keep (hb.fr.same λb hb=>⟨HS b hb,id⟩) Hd).drop k;rw[hd]at Hb;obtain⟨⟨Hf,_,r0,r1,r2,c0,c1,c2,c4⟩,⟨A3,q3,c3,s3⟩,_⟩:=Hb;have Gf:b < wr.heap.size:=ltq (HS _ Hf) hb.fr.size;have Hl:(k:Int) < (m:Int):=by omega
   have Fb:(0:Int)<=(k:Int):=by omega
   obtain⟨l3,Gz⟩:=nmq a3.len;rw[<-Gz]at c3;obtain⟨Fs,Kj,h7⟩:=HA k a0 a1 a2 a3 a4 ar' hd;obtain⟨v0,v1,v2,v3,v4,v5,mS,mA,nS,nA,MP,Qz,Re⟩:=kt.maps;obtain⟨wX,UU⟩:=nmq (wr.alloc (.cells #[.int .u8 a0,.string a1,.int .i64 a2,.slice A3 l3 q3,.int .i64 a4] 41));have UV:Fr NoT wr wX:=by rw[UU];exact(Fr.refl _ _).alloc _
   have TN:Bk wX wr.heap.size 41 #[.int .u8 a0,.string a1,.int .i64 a2,.slice A3 l3 q3,.int .i64 a4]:=by
    rw[UU];exact Bk.new _ _ _
   have TO:=MP.fr0 (hb.fr.trans UV);have y6:=TO.cell 6;have y7:=TO.cell 7;have yl:=TO.lt;simp only[getsL]at y6 y7;have Jc:=(Qz.fr ((hb.fr.trans UV).drew) id).look Fs;have xq:=(Re.fr ((hb.fr.trans UV).drew) id).look Fs;have YQ:=hdq UU;obtain⟨n5,gO⟩:=nmq (numN sc ar a0 a1 a2);have YR:in64 n5:=by
    rw[gO];unfold numN;split
    ·exact FJ.1 a1
    ·split
     ·exact FJ.2 a1
     ·exact r1
   have Hw:((a0==2)=true/\n5=sc.get a1)\/((a0==2)=false/\(a0==3)=true/\n5=ar.get a1)\/((a0==2)=false/\(a0==3)=false/\n5=a2):=by
    rw[gO];unfold numN;by_cases e2:a0=2
    ·exact .inl ⟨by simpa using e2,if_pos e2⟩
    ·by_cases e3:a0=3
     ·exact .inr (.inl ⟨by simpa using e2,by simpa using e3,by rw[if_neg e2,if_pos e3]⟩)
     ·exact .inr (.inr ⟨by simpa using e2,by simpa using e3,by rw[if_neg e2,if_neg e3]⟩)
   have p0:=TN.cell 0;have p1:=TN.cell 1;have p2:=TN.cell 2;have p3:=TN.cell 3;have p4:=TN.cell 4;have pz:=TN.frozen 2;have pl:=TN.lt;simp only[getsL]at p0 p1 p2 p3 p4;have gF:=hdq gO;have J7:=hdq (s3.imp λ_ _ (hx:ExR wr S Z a3 _ _)=>ExR.keep (UV.same λb h=>⟨ltq (HS b h) hb.fr.size,id⟩) hx);have ku:=hdq (show ∀b,S b->b < wr.heap.size from λb h=>ltq (HS b h) hb.fr.size);have vz:=hdq (kt.fr0 (hb.fr.trans UV));have YS:=hdq TN;have K4:=hdq UV;have Di:=hdq (show mb < wr.heap.size from by
    have:=(MP.fr0 hb.fr).lt;exact this)
   have Pz:=hdq (show ∀w5,Fr NoT wr w5->Fr (λb=>b=wr.heap.size) wX w5->Calls Tryz.prog 185 #[.pointer (some ⟨mb,0,none⟩),.slice A3 l3 q3] w5 (FxP (numX sc ar a3) w5)from λw5 h1 h2=>by
    have h9:=h7 w5 S Z A3 q3 mb (kt.fr0 (hb.fr.trans h1)) (λb Je=>ltq (ku b Je) h1.size) Kj (J7.imp λ_ _ hx=>ExR.keep (h2.same λb Je=>⟨ltq (ku b Je) UV.size,λe=>by have:=ku b Je;have e:b=wr.heap.size:=e;omega⟩) hx);rw[<-Gz]at h9;exact h9)
   have HD:=hdq hd;have HR:=hdq (aiq r0 (aiq YR r2));have xt:mb < wX.heap.size:=yl;clear hd Hd Hf s3 r0 r1 r2 Gz h7 Fs Kj MP Qz Re UV TN TO UU gO YR;rcases Hw with⟨k2,hn⟩|⟨k2,k3,hn⟩|⟨k2,k3,hn⟩
   case' inl=>
    go_upto_region 6 with fail
    rw[<-YQ.out];refine wp_region_still_tail 7 (by kernel_rfl) (by kernel_rfl) ?_;simp only[List.take_succ_cons,List.take_zero,List.drop_succ_cons,List.drop_zero]
    repeat still_step
    try refine wpStill_nil ?_
    obtain⟨w5,GE⟩:=nmq ((wX.setCell ⟨wr.heap.size,2,none⟩ (.int .i64 n5)).drew );have Hx:=hdq (show Fr NoT wr w5 from by rw[GE];exact(Fr.high K4.out (lrq _) _ _).drew);have gP:=hdq (show Fr (λb=>b=wr.heap.size) wX w5 from by rw[GE];exact(Fr.own (Fr.refl _ _) _ _).drew);have GO:=hdq (show Bk w5 wr.heap.size 41 #[.int .u8 a0,.string a1,.int .i64 n5,.slice A3 l3 q3,.int .i64 a4]from by
     have:=YS.set_ 2 (.int .i64 n5);rw[GE];exact Bk.fr0 (by simpa using this) ((Fr.refl _ _).drew))
    rw[hn]at GE;have JD:=hdq GE;clear GE hn k2;go_wp2_with fail;rw[<-JD.out]
   case' inr.inl=>
    go_upto_region 8 with fail
    rw[<-YQ.out];refine wp_region_still_tail 7 (by kernel_rfl) (by kernel_rfl) ?_;simp only[List.take_succ_cons,List.take_zero,List.drop_succ_cons,List.drop_zero]
    repeat still_step
    try refine wpStill_nil ?_
    obtain⟨w5,GE⟩:=nmq ((wX.setCell ⟨wr.heap.size,2,none⟩ (.int .i64 n5)).drew );have Hx:=hdq (show Fr NoT wr w5 from by rw[GE];exact(Fr.high K4.out (lrq _) _ _).drew);have gP:=hdq (show Fr (λb=>b=wr.heap.size) wX w5 from by rw[GE];exact(Fr.own (Fr.refl _ _) _ _).drew);have GO:=hdq (show Bk w5 wr.heap.size 41 #[.int .u8 a0,.string a1,.int .i64 n5,.slice A3 l3 q3,.int .i64 a4]from by
     have:=YS.set_ 2 (.int .i64 n5);rw[GE];exact Bk.fr0 (by simpa using this) ((Fr.refl _ _).drew))
    rw[hn]at GE;have JD:=hdq GE;clear GE hn k2 k3;go_wp2_with fail;rw[<-JD.out]
   case' inr.inr=>
    go_wp2_with fail;rw[<-YQ.out];obtain⟨w5,GE⟩:=nmq wX;rw[<-GE];have Hx:=hdq (show Fr NoT wr w5 from by rw[GE];exact K4.out);have gP:=hdq (show Fr (λb=>b=wr.heap.size) wX w5 from by rw[GE];exact Fr.refl _ _);have GO:=hdq (show Bk w5 wr.heap.size 41 #[.int .u8 a0,.string a1,.int .i64 n5,.slice A3 l3 q3,.int .i64 a4]from by rw[GE,hn];exact YS.out);clear GE hn k2 k3
   all_goals
    have H7:=hdq (Pz w5 Hx.out gP.out);clear p0 p1 p2 p3 p4 pz pl y6 y7 yl xt Jc xq c0 c1 c2 c3 c4 Gf Pz gP;refine H7.mono ?_;rintro _ w7 ⟨A4,q4,rfl,s4,Gw⟩;have GK:=GO.fr0 Gw;have x0:=GK.cell 0;have x1:=GK.cell 1;have x2:=GK.cell 2;have x3:=GK.cell 3;have x4:=GK.cell 4;have z3:=GK.frozen 3;have xl:=GK.lt;simp only[getsL]at x0 x1 x2 x3 x4;obtain⟨l4,Gy⟩:=nmq ((numX sc ar a3).len );rw[<-Gy];have Qh:=hdq Gy
    -- the world ahead of the append
    obtain⟨w8,GG⟩:=nmq (w7.setCell ⟨wr.heap.size,3,none⟩ (.slice A4 l4 q4));obtain⟨w9,FY⟩:=nmq (w8.alloc (.cells #[.int .u8 a0,.string a1,.int .i64 n5,.slice A4 l4 q4,.int .i64 a4] 41));have LX:Fr (λb=>b=wr.heap.size) w7 w9:=by rw[FY,GG];exact(Fr.own (Fr.refl _ _) 3 _).alloc _
    have Gm:Fr NoT wr w9:=by rw[FY,GG];exact(Fr.high (Hx.trans Gw) (lrq _) _ _).alloc _
    have FM:Bk w9 w7.heap.size 41 ([.int .u8 a0,.string a1,.int .i64 n5,.slice A4 l4 q4,.int .i64 a4]:List Value).toArray :=by rw[FY];exact Bk.new_at _ _ _ (by rw[GG];simp)
    have Fl:=World.ownsRow.kept (w':=w9) hb.row (row:=none) ⟨Gm.os,Gm.tape,Gm.output,Gm.size,λi hi _=>Gm.block i hi id⟩ (Classical.em _);have Jj:=hdq Fl;have LW:=hdq FM;have LY:=hdq LX;have FT:=hdq Gm;have JG:=hdq Gw;have Lj:=hdq s4;have LZ:w.heap.size<=w9.heap.size:=leq9 hb.fr.size Gm.size;have FN:(acc.length+1)*64<=140737488355328:=by have:=Ji.out;have:=hb.len;omega
    have Jt:acc.length+1<=9223372036854775807:=by have:=hb.len;omega
    have NL:=hdq FY;have K8:=hdq GG;clear Gy GG FY LX Gm FM Fl GK Gw s4;go_wp2_with (at_builtin;rw[<-K8.out,<-NL.out];refine zal _ rfl _ _ 36 rfl w.heap.size 41 i0 (.agg #[.int .u8 0,.string ⟨#[]⟩,.int .i64 0,.slice none 0 0,.int .i64 0]) 5 64 Tryz.underlying36 HI.1 HI.2.1 HI.2.2.1 HI.2.2.2 rfl (by decide) _ _ _ rfl Jj.out ⟨w7.heap.size,0,none⟩ 1 1 _ rfl rfl LW.newsL ?c2 (by decide) ?c3 FN LZ ?_);case c2=>
     intro u hu;simp only[List.mem_cons,List.not_mem_nil,or_false]at hu;rcases hu with rfl|rfl|rfl|rfl|rfl<;>rfl
    case c3=>unfold maxLen;omega
    intro v' w10 Hg Hh GY;have Wd:wr.heap.size < w7.heap.size:=xl;have Hq:=RowR.step za4 hb.row hb.fr.size hb.rows FT.out (y:=(⟨a0,a1,n5,numX sc ar a3,a4⟩:Ex)) (zs:= [.int .u8 a0,.string a1,.int .i64 n5,.slice A4 l4 q4,.int .i64 a4])
     ⟨A4,q4,by rw[Qh.out],HR.1,HR.2.1,HR.2.2,Lj.imp λ_ _ h=>ExR.more (λb hb=>⟨by have h1:=hb.1;have:=Hx.size;omega,by have h2:=hb.2;have:=LY.size;omega⟩) (ExR.keep (LY.same λb hb=>⟨hb.2,λe=>by have e:b=wr.heap.size:=e;have h1:=hb.1;have:=GO.lt;omega⟩) h)⟩ Hh GY
    have hlen:(acc++ [(⟨a0,a1,n5,numX sc ar a3,a4⟩:Ex)]).length =acc.length+1:=by simp
    have F8:=hdq (show FxX sc ar w xs v' w10 (acc++ [⟨a0,a1,n5,numX sc ar a3,a4⟩]) (cs++ [.int .u8 a0,.string a1,.int .i64 n5,.slice A4 l4 q4,.int .i64 a4]) (k+1)from
     ⟨by rw[hlen];exact Hg,Hq.1,Fr.back1 hb.fr Hq.2 (lrq _),by
      rw[zbA,Exs.drop_succ k xs HD.out,<-hb.eq,HD.out];simp only[numX];rw[<-gF.out];rfl,by rw[hlen,hb.len]⟩)
    clear Hg Hh GY Hq hlen FN Jt LZ x0 x1 x2 x3 x4 z3 xl;go_wp2_with fail;go_roundw;case rel=>exact⟨k+1,by omega,by go_num,_,_,F8⟩
    case measure=>simp[intOf];omega
  ·have Hl:¬(k:Int) < (m:Int):=by omega
   have JK:k=m:=by omega
   have hle:(numX sc ar xs).len =acc.length:=by rw[zaY,<-HM.out,hb.len,JK]
   have heq:(numX sc ar xs)=zd9 acc:=by
    rw[<-zbB,<-hb.eq,Exs.drop_nil (by rw[<-HM.out];omega)];rfl
   obtain⟨A',c',he,Fh⟩:=RowR.slice za4 (sz:=64) hb.row hb.rows (by rw[hb.len,JK];exact Ji.out) (P:=λb o=>ExR wr (New w.heap.size wr) True (numX sc ar xs) b o) λg hg hr hc=>by
    rw[heq];exact rowX (o:=0) hg hr λj u hj=>by rw[Nat.zero_add];exact hc j u hj
   have HE:=hdq he;have J7:=hdq Fh;have K9:=hdq hle;clear heq hle he Fh;go_wp2_with fail;go_ret;refine⟨A',c',?_,?_,hb.fr⟩
   ·rw[K9.out,HE.out];rfl
   ·rw[K9.out];exact J7.out
theorem zgP (sc ar:NoN)(r1:NoR sc)(r2:NoR ar):∀xs:Exs,szQ xs->FxI sc ar xs
 | .nil,_,i,_,_,_,_,_,_,h=>by cases i<;>simp[Exs.drop]at h
 | .cons k nm n args at_ rest,hs,0,a0,a1,a2,a3,a4,ar',h=>by
  simp only[Exs.drop,Exs.cons.injEq]at h;obtain⟨_,rfl,_,rfl,_,_⟩:=h;exact⟨hs.1,hs.2.1,zmk sc ar r1 r2 _ (zgP sc ar r1 r2 _ hs.2.1)⟩
 | .cons k nm n args at_ rest,hs,i+1,a0,a1,a2,a3,a4,ar',h=>by
  simp only[Exs.drop]at h;exact zgP sc ar r1 r2 rest hs.2.2 i a0 a1 a2 a3 a4 ar' h
theorem zgd (sc ar:NoN)(r1:NoR sc)(r2:NoR ar)(xs:Exs)(hs:szQ xs):FxC sc ar xs:=zmk sc ar r1 r2 xs (zgP sc ar r1 r2 xs hs)
