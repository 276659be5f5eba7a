/-
  sem's next: what it tries.
-/
import Derived.Test.YtobegfbdedgmpaaGreatDoorSmDoes
set_option linter.unusedVariables false
set_option linter.unusedSimpArgs false
set_option maxHeartbeats 6400000
set_option maxRecDepth 100000
namespace Go.Proofs.YtobegfbdedgmpaaGreatDoor
open Go.RowKit Go.Shelf Go.Maps

def edC (e:Ed) (A5:Option Addr) (c5:Nat):Array Value:= #[.int .i64 e.from_,.int .i64 e.to_,.int .u8 e.kind,.int .i64 e.n,.int .u8 e.cmp,.slice A5 e.args.len c5,.int .i64 e.at_]
structure NxE (m:MW) (w:World) (e:Ed) (A5:Option Addr) (c5:Nat) (is:List Nat) (A:Option Addr) (co N B0 B1 B2 B3:Nat):Prop where
 b0:Bk w B0 164 #[.pointer (some ⟨m.c.R,0,none⟩)]
 b1:Bk w B1 47 (edC e A5 c5)
 b2:Bk w B2 168 #[.pointer none]
 b3:Bk w B3 37 #[.slice A is.length co]
 sl:IsSl w N (is.map fun(i:Nat)=>(i:Int)) A co
 nT:∀b,m.c.T b→b < N
 nA:∀b o,A=some ⟨b,o,none⟩→¬m.c.T b
 l0:N≤B0
 l1:N≤B1
 l2:N≤B2
 l3:N≤B3
 n01:B0≠B1
 n02:B0≠B2
 n12:B1≠B2
 n31:B3≠B1
 n32:B3≠B2
def zf0 (m:MW) (s:Rs) (e:Ed) (i:Int) (r:List Nat) (B1 B2:Nat) (w:World) (en:Ending) (w':World):Prop:=
 Fr (fun b=>m.c.T b∨b=B1∨b=B2) w w'∧match doE s e i with
  | .inl t=>en= .returned (.tuple #[])∧(∃As cs,MnR m w' t As cs 0 0 0 i)∧Bk w' B2 168 #[.pointer none]∧∃C:Array Value,Bk w' B1 47 C∧C[1]?=some (.int .i64 (zad m.c.g s e r))
  | .inr z=>(∃f:Int×Int,f.1≠0∧en=fault 246 f∧z=s.stop 5 f.1 f.2 i∧(∃As cs,MnR m w' s As cs 0 0 0 i)∧Bk w' B2 168 #[.pointer none])∨
   ∃(k at_:Int) (P:Nat),en= .returned (.tuple #[])∧z=s.stop k 0 at_ i∧Bk w' P 171 #[.int .u8 k,.int .i64 at_]∧w.heap.size≤P∧(∃As cs,MnR m w' s As cs 0 0 0 i)∧Bk w' B2 168 #[.pointer (some ⟨P,0,none⟩)]
theorem MnR.at_ {m:MW} {w0 w w':World} {s0 s:Rs} {As0 As:Option Addr} {cs0 cs:Nat} {a0 b0 d0 e0 k wr at_ ed:Int} {B:Nat} (h0:MnR m w0 s0 As0 cs0 a0 b0 d0 e0) (hB:w0.heap.size≤B) (h:MnR m w s As cs k wr at_ ed) (hf:Fr (fun x=>x=B) w w'):MnR m w' s As cs k wr at_ ed:=
 h0.far h (hf.mono fun x _ e=>by have e:x=B:=e;show w0.heap.size≤x;omega)

theorem zgN (m:MW) (w:World) (s:Rs) (As:Option Addr) (cs:Nat) (i:Int) (e:Ed) (A5:Option Addr) (c5:Nat) (h:MnR m w s As cs 0 0 0 i) (h6:e.kind=6):
  Calls Tryz.prog 160 #[.pointer (some ⟨m.c.R,0,none⟩),.agg (edC e A5 c5)] w (fun en w'=>en= .returned (.pointer none)∧Fr NoT w w'):=by
 have q14:=h.blk.cell 14
 have q15:=h.blk.cell 15
 simp only[mnC,rnC,List.getElem?_toArray,List.getElem?_cons_succ,List.getElem?_cons_zero]at q14 q15
 have hR:m.c.R < w.heap.size:=h.blk.lt
 unfold edC
 rw[h6]
 clear h
 go_enter Tryz.func160,Tryz.ntmps160
 go_wp2_with fail
 go_ret
 exact⟨rfl,((Fr.refl _ _).alloc _).alloc _⟩

theorem zcb (m:MW) (w:World) (s:Rs) (As:Option Addr) (cs:Nat) (i:Nat) (r:List Nat) (e:Ed) (A5:Option Addr) (c5:Nat) (A:Option Addr) (co N B0 B1 B2 B3:Nat) {w0:World} {s0:Rs} {As0:Option Addr} {cs0:Nat} {x0 x1 x2 x3:Int} (h0:MnR m w0 s0 As0 cs0 x0 x1 x2 x3) (hN:w0.heap.size=N)
  (h:MnR m w s As cs 0 0 0 i) (hm:mayG m.c.g=true) (hix:idxE m.c.g.edges s.node m.c.g.edges.length=i::r) (he:m.c.g.edges[i]?=some e) (hx5:ExSl w m.c.L e.args A5 c5) (hx:NxE m w e A5 c5 (i::r) A co N B0 B1 B2 B3):
  Calls Tryz.prog 159 #[.pointer (some ⟨B0,0,none⟩),.pointer (some ⟨B1,0,none⟩),.pointer (some ⟨B2,0,none⟩),.pointer (some ⟨B3,0,none⟩)] w (zf0 m s e i r B1 B2 w):=by
 have p0:=hx.b0.cell 0
 have l0:=hx.b0.lt
 have f0:=hx.b1.cell 0
 have f1:=hx.b1.cell 1
 have f2:=hx.b1.cell 2
 have f3:=hx.b1.cell 3
 have f4:=hx.b1.cell 4
 have f5:=hx.b1.cell 5
 have f6:=hx.b1.cell 6
 have l1:=hx.b1.lt
 have r0:=hx.b2.cell 0
 have rf0:=hx.b2.frozen 0
 have l2:=hx.b2.lt
 simp only[edC,List.getElem?_toArray,List.getElem?_cons_succ,List.getElem?_cons_zero]at p0 f0 f1 f2 f3 f4 f5 f6 r0
 have hT1:¬m.c.T B1:=fun h=>by have:=hx.nT _ h;have:=hx.l1;omega
 have hT2:¬m.c.T B2:=fun h=>by have:=hx.nT _ h;have:=hx.l2;omega
 have hT0:¬m.c.T B0:=fun h=>by have:=hx.nT _ h;have:=hx.l0;omega
 have hT3:¬m.c.T B3:=fun h=>by have:=hx.nT _ h;have:=hx.l3;omega
 have HX:=hdq hx
 have HH:=hdq h
 have HM:=hdq hm
 have HIX:=hdq hix
 have HE:=hdq he
 have HX5:=hdq hx5
 have H00:=hdq h0
 have HN:=hdq hN
 by_cases h6:e.kind=6
 ·obtain⟨a0,a1,a2,a3,a4,b0,b1,b2,b3,b4,hxe⟩:=zkw ((zeY hm (List.mem_of_getElem? he)).2.2.1 h6)
  have hme:=zoS hm (List.mem_of_getElem? he)
  have hcm:=hme.c h6
  have hdo:=zgN m w s As cs i e A5 c5 h h6
  unfold edC at hdo
  have HNS:=hdq (zgF hx5)
  have HASK:=hdq (h.asks hme (zgF hx5))
  have hxl:e.args.len=2:=(zeY hm (List.mem_of_getElem? he)).2.2.1 h6
  rw[h6]at hdo f2
  rw[hxl]at hdo f5
  rw[hxe]at HASK HNS hx5
  obtain⟨bx,ox,rfl,hat⟩:=hx5.2.2 (by simp[Exs.len])
  have q14:=h.blk.cell 14
  have q15:=h.blk.cell 15
  have q6:=h.blk.cell 6
  have hRl:=h.blk.lt
  simp only[mnC,rnC,List.getElem?_toArray,List.getElem?_cons_succ,List.getElem?_cons_zero]at q14 q15 q6
  obtain⟨be,oe,hAe,hate⟩:=zlW h.gr.edges he
  rw[hAe]at q6
  obtain⟨R,hRR⟩:=nmq m.c.R
  rw[←hRR]at p0 hdo q14 q15 q6 hRl
  obtain⟨Y,hY⟩:=nmq m.c.bv
  rw[←hY]at q14
  obtain⟨n1,hn1⟩:=nmq s.vs.length
  obtain⟨n2,hn2⟩:=nmq s.ls.length
  obtain⟨ne,hne⟩:=nmq m.c.g.edges.length
  obtain⟨il,hil⟩:=nmq ((i::r).length )
  rw[←hn1]at q14
  rw[←hn2]at q15
  rw[←hne]at q6
  have hne2:ne≤2048:=by rw[hne];exact(zcW hm).1
  have hil2:il≤2048:=by rw[hil,←hix];exact Nat.le_trans (zgL _ _ _) (zcW hm).1
  have hnR1:¬R=B1:=fun e=>hT1 (by rw[←e,hRR];exact m.c.tR)
  have hnR2:¬R=B2:=fun e=>hT2 (by rw[←e,hRR];exact m.c.tR)
  have hn12:¬B1=B2:=hx.n12
  have hn21:¬B2=B1:=fun e=>hn12 e.symm
  have HDO:=hdq hdo
  have HXE:=hdq hxe
  have H6:=hdq h6
  have HAE:=hdq hAe
  have HRR:=hdq hRR
  have HY:=hdq hY
  have HN1:=hdq hn1
  have HN2:=hdq hn2
  have HNE:=hdq hne
  have HIL:=hdq hil
  have HAT:=hdq hat
  have HCM:=hdq hcm
  have HME:=hdq hme
  have hLN:m.c.L≤N:=by rw[←hN];exact h0.lt
  clear hx h hm hix he hx5 h0 hN h6 hdo hxe hRR hY hn1 hn2 hne hil hat hAe hate hcm hme hxl
  go_enter Tryz.func159,Tryz.ntmps159
  go_wp2_with fail
  go_at_call 160
  refine HDO.out.mono ?_
  rintro _ w2 ⟨rfl,hf2⟩
  have p0':=(hf2.cell (p:=⟨B0,0,none⟩) l0 id).trans p0
  have f2':=(hf2.cell (p:=⟨B1,2,none⟩) l1 id).trans f2
  have f4':=(hf2.cell (p:=⟨B1,4,none⟩) l1 id).trans f4
  have r0':=(hf2.cell (p:=⟨B2,0,none⟩) l2 id).trans r0
  have rf0':=(hf2.frozen (p:=⟨B2,0,none⟩) l2 id).trans rf0
  have q14':=(hf2.cell (p:=⟨R,14,none⟩) hRl id).trans q14
  have q15':=(hf2.cell (p:=⟨R,15,none⟩) hRl id).trans q15
  have l0':=hf2.low l0
  have l1':=hf2.low l1
  have l2':=hf2.low l2
  have hRl':=hf2.low hRl
  have hn02:¬B0=B2:=HX.out.n02
  have hn20:¬B2=B0:=fun e=>hn02 e.symm
  obtain⟨w4,hw4⟩:=nmq ((w2.setCell ⟨B2,0,none⟩ (.pointer none)).alloc (.cells #[.slice (some ⟨Y,0,none⟩) n1 n1,.slice m.c.Ar n2 m.c.cr] 57))
  have hf4:Fr (fun b=>b=B2) w w4:=by rw[hw4];exact(hf2.any.trans (Fr.own (Fr.refl _ _) _ _)).alloc _
  have k4:Bk w4 w2.heap.size 57 #[.slice (some ⟨Y,0,none⟩) n1 n1,.slice m.c.Ar n2 m.c.cr]:=by rw[hw4];exact Bk.new_at _ _ _ (by simp)
  have kb2:Bk w4 B2 168 #[.pointer none]:=by
   have:=(HX.out.b2.fr0 hf2).set_ 0 (.pointer none)
   rw[hw4];exact Bk.alloc (by simpa using this) _
  have kb1:=HX.out.b1.fr hf4 hn12
  have hr4:=H00.out.at_ (by rw[HN.out];exact HX.out.l2) HH.out hf4
  have t0:=k4.cell 0
  have t1:=k4.cell 1
  have hS4:=k4.lt
  simp only[List.getElem?_toArray,List.getElem?_cons_succ,List.getElem?_cons_zero]at t0 t1
  have f54:=(hf4.cell (p:=⟨B1,5,none⟩) l1 hn12).trans f5
  have f44:=(hf4.cell (p:=⟨B1,4,none⟩) l1 hn12).trans f4
  have l14:=hf4.low l1
  have hnb:¬w2.heap.size=B2:=by omega
  obtain⟨hbB,y0,y1,y2,⟨A',c',y3,hlc,hc9,hsl⟩,y4,_,_,_,_,z0,z1,z2,⟨B',d',z3,hlc2,hc92,hsl2⟩,z4,_⟩:=HAT.out.keep (Same.of_fr hf4 HH.out.lt fun b e=>by have e:b=B2:=e;have:=HX.out.l2;omega)
  have hbxN:bx < N:=by omega
  have hbxw:bx < w4.heap.size:=by have:=HX.out.l1;omega
  have hwL:m.c.L≤w.heap.size:=HH.out.lt
  have hslx:ExSl w4 w.heap.size a3 A' c':=(show ExSl w4 m.c.L a3 A' c' from⟨hlc,hc9,hsl⟩).more hwL
  have hsly:ExSl w4 w.heap.size b3 B' d':=(show ExSl w4 m.c.L b3 B' d' from⟨hlc2,hc92,hsl2⟩).more hwL
  have hst4:StSl w4 w4.heap.size s.vs s.ls (some ⟨m.c.bv,0,none⟩) s.vs.length m.c.Ar m.c.cr:=hr4.sto.stSl
  have HASK4:=hdq (hr4.asks HME.out (by rw[HXE.out];exact HNS.out))
  rw[HXE.out]at HASK4
  have hslx4:=hslx.more hf4.size
  have hsly4:=hsly.more hf4.size
  obtain⟨l3,hl3⟩:=nmq a3.len
  obtain⟨l4,hl4⟩:=nmq b3.len
  have hcall:∀W,Fr NoT w4 W→Calls Tryz.prog 161 #[.agg #[.slice (some ⟨Y,0,none⟩) n1 n1,.slice m.c.Ar n2 m.c.cr],.agg #[.int .u8 a0,.string a1,.int .i64 a2,.slice A' l3 c',.int .i64 a4]] W (zay 246 (zar s.vs s.ls a0 a2 (zag s.vs s.ls a3)) (zao s.vs s.ls a0 a2 a3 a4) W):=fun W hW=>by
   rw[hl3,HY.out,HN1.out,HN2.out]
   exact HASK4.out 0 a0 a1 a2 a3 a4 _ rfl W A' c' hW.size (hst4.keep (Same.of_fr hW (Nat.le_refl _) fun _ h=>h.elim)) (hslx4.keep (Same.of_fr hW (Nat.le_refl _) fun _ h=>h.elim))
  have hcall2:∀W,Fr NoT w4 W→Calls Tryz.prog 161 #[.agg #[.slice (some ⟨Y,0,none⟩) n1 n1,.slice m.c.Ar n2 m.c.cr],.agg #[.int .u8 b0,.string b1,.int .i64 b2,.slice B' l4 d',.int .i64 b4]] W (zay 246 (zar s.vs s.ls b0 b2 (zag s.vs s.ls b3)) (zao s.vs s.ls b0 b2 b3 b4) W):=fun W hW=>by
   rw[hl4,HY.out,HN1.out,HN2.out]
   exact HASK4.out 1 b0 b1 b2 b3 b4 .nil rfl W B' d' hW.size (hst4.keep (Same.of_fr hW (Nat.le_refl _) fun _ h=>h.elim)) (hsly4.keep (Same.of_fr hW (Nat.le_refl _) fun _ h=>h.elim))
  rw[←hl3]at y3
  rw[←hl4]at z3
  have hS:∀(T:Nat→Prop) (W':World),Fr T w4 W'→¬T w2.heap.size→¬T B1→¬T bx→(W'.cell? ⟨w2.heap.size,0,none⟩=some (.slice (some ⟨Y,0,none⟩) n1 n1)∧W'.cell? ⟨w2.heap.size,1,none⟩=some (.slice m.c.Ar n2 m.c.cr)∧W'.cell? ⟨B1,5,none⟩=some (.slice (some ⟨bx,ox,none⟩) 2 c5)∧W'.cell? ⟨bx,ox,none⟩=some (.int .u8 a0)∧W'.cell? ⟨bx,ox+1,none⟩=some (.string a1)∧W'.cell? ⟨bx,ox+2,none⟩=some (.int .i64 a2)∧W'.cell? ⟨bx,ox+3,none⟩=some (.slice A' l3 c')∧W'.cell? ⟨bx,ox+4,none⟩=some (.int .i64 a4)∧W'.cell? ⟨bx,ox+5,none⟩=some (.int .u8 b0)∧W'.cell? ⟨bx,ox+5+1,none⟩=some (.string b1)∧W'.cell? ⟨bx,ox+5+2,none⟩=some (.int .i64 b2)∧W'.cell? ⟨bx,ox+5+3,none⟩=some (.slice B' l4 d')∧W'.cell? ⟨bx,ox+5+4,none⟩=some (.int .i64 b4)):=fun T W' hf u1 u2 u3=>⟨(hf.cell (p:=⟨w2.heap.size,0,none⟩) hS4 u1).trans t0,(hf.cell (p:=⟨w2.heap.size,1,none⟩) hS4 u1).trans t1,(hf.cell (p:=⟨B1,5,none⟩) l14 u2).trans f54,(hf.cell (p:=⟨bx,ox,none⟩) hbxw u3).trans y0,(hf.cell (p:=⟨bx,ox+1,none⟩) hbxw u3).trans y1,(hf.cell (p:=⟨bx,ox+2,none⟩) hbxw u3).trans y2,(hf.cell (p:=⟨bx,ox+3,none⟩) hbxw u3).trans y3,(hf.cell (p:=⟨bx,ox+4,none⟩) hbxw u3).trans y4,(hf.cell (p:=⟨bx,ox+5,none⟩) hbxw u3).trans z0,(hf.cell (p:=⟨bx,ox+5+1,none⟩) hbxw u3).trans z1,(hf.cell (p:=⟨bx,ox+5+2,none⟩) hbxw u3).trans z2,(hf.cell (p:=⟨bx,ox+5+3,none⟩) hbxw u3).trans z3,(hf.cell (p:=⟨bx,ox+5+4,none⟩) hbxw u3).trans z4⟩
  have HS:=hdq hS
  have HC:=hdq hcall
  have HC2:=hdq hcall2
  obtain⟨f,hf⟩:=nmq (zao s.vs s.ls a0 a2 a3 a4)
  obtain⟨v,hv⟩:=nmq (zar s.vs s.ls a0 a2 (zag s.vs s.ls a3))
  obtain⟨f',hf'⟩:=nmq (zao s.vs s.ls b0 b2 b3 b4)
  obtain⟨u,hu⟩:=nmq (zar s.vs s.ls b0 b2 (zag s.vs s.ls b3))
  rw[←hf,←hv]at HC
  rw[←hf',←hu]at HC2
  have HFL:=hdq (show fltX s.vs s.ls e.args=if f.1=0 then f' else f from by
   rw[HXE.out,hf,hf',zbm]
   split
   ·rw[zbm]
    split
    ·rename_i h0;rw[zcl h0];rfl
    ·rfl
   ·rfl)
  have HVX:=hdq (show(zag s.vs s.ls e.args).getD 0 0=v∧(zag s.vs s.ls e.args).getD 1 0=u from by rw[HXE.out,hv,hu];exact⟨rfl,rfl⟩)
  have HW4:=hdq hw4
  have HF4:=hdq hf4
  have HR4:=hdq hr4
  have HKB1:=hdq kb1
  have HKB2:=hdq kb2
  clear hcall hcall2 hsl hslx hlc hc9 hsl2 hsly hlc2 hc92 hS hf hv hf' hu hl3 hl4 hw4 hf4 k4 kb2 kb1 hr4 hst4 hslx4 hsly4 hf2
  have hgo0:(Fr NoT w4 w4.drew):=(Fr.refl _ _).drew
  go_wp2_with fail
  rw[←HW4.out]
  refine zaE (fun W'=>W'.cell? ⟨w2.heap.size,0,none⟩=some (.slice (some ⟨Y,0,none⟩) n1 n1)∧W'.cell? ⟨w2.heap.size,1,none⟩=some (.slice m.c.Ar n2 m.c.cr)∧W'.cell? ⟨B1,5,none⟩=some (.slice (some ⟨bx,ox,none⟩) 2 c5)∧W'.cell? ⟨bx,ox,none⟩=some (.int .u8 a0)∧W'.cell? ⟨bx,ox+1,none⟩=some (.string a1)∧W'.cell? ⟨bx,ox+2,none⟩=some (.int .i64 a2)∧W'.cell? ⟨bx,ox+3,none⟩=some (.slice A' l3 c')∧W'.cell? ⟨bx,ox+4,none⟩=some (.int .i64 a4)∧W'.cell? ⟨bx,ox+5,none⟩=some (.int .u8 b0)∧W'.cell? ⟨bx,ox+5+1,none⟩=some (.string b1)∧W'.cell? ⟨bx,ox+5+2,none⟩=some (.int .i64 b2)∧W'.cell? ⟨bx,ox+5+3,none⟩=some (.slice B' l4 d')∧W'.cell? ⟨bx,ox+5+4,none⟩=some (.int .i64 b4)) 16 (by kernel_rfl) (HS.out _ _ hgo0 id id id) (fun hHeld=>?_)
  refine zaa 0 (v:=?_) rfl (by kernel_rfl) (by kernel_rfl) (by kernel_rfl) (by kernel_rfl) (fun _ _ _ h=>h) hHeld (by rfl) ?_ ?_
  rotate_left
  ·intro wz hSz
   (try dsimp only at hSz)
   go_simp
   try with_reducible rfl
  try simp only[Act.put,List.setIfInBounds_toArray,List.set_cons_zero,List.set_cons_succ]
  refine zaa 1 (v:=?_) rfl (by kernel_rfl) (by kernel_rfl) (by kernel_rfl) (by kernel_rfl) (fun _ _ _ h=>h) hHeld (by rfl) ?_ ?_
  rotate_left
  ·intro wz hSz
   (try dsimp only at hSz)
   go_simp
   try with_reducible rfl
  try simp only[Act.put,List.setIfInBounds_toArray,List.set_cons_zero,List.set_cons_succ]
  refine zaa 2 (v:=?_) rfl (by kernel_rfl) (by kernel_rfl) (by kernel_rfl) (by kernel_rfl) (fun _ _ _ h=>h) hHeld (by rfl) ?_ ?_
  rotate_left
  ·intro wz hSz
   (try dsimp only at hSz)
   go_simp
   try with_reducible rfl
  try simp only[Act.put,List.setIfInBounds_toArray,List.set_cons_zero,List.set_cons_succ]
  refine zaa 3 (v:=?_) rfl (by kernel_rfl) (by kernel_rfl) (by kernel_rfl) (by kernel_rfl) (fun _ _ _ h=>h) hHeld (by rfl) ?_ ?_
  rotate_left
  ·intro wz hSz
   (try dsimp only at hSz)
   go_simp
   try with_reducible rfl
  try simp only[Act.put,List.setIfInBounds_toArray,List.set_cons_zero,List.set_cons_succ]
  refine zaa 4 (v:=?_) rfl (by kernel_rfl) (by kernel_rfl) (by kernel_rfl) (by kernel_rfl) (fun _ _ _ h=>h) hHeld (by rfl) ?_ ?_
  rotate_left
  ·intro wz hSz
   (try dsimp only at hSz)
   go_simp
   try with_reducible rfl
  try simp only[Act.put,List.setIfInBounds_toArray,List.set_cons_zero,List.set_cons_succ]
  refine zaa 5 (v:=?_) rfl (by kernel_rfl) (by kernel_rfl) (by kernel_rfl) (by kernel_rfl) (fun _ _ _ h=>h) hHeld (by rfl) ?_ ?_
  rotate_left
  ·intro wz hSz
   (try dsimp only at hSz)
   go_simp
   try with_reducible rfl
  try simp only[Act.put,List.setIfInBounds_toArray,List.set_cons_zero,List.set_cons_succ]
  refine zaa 7 (v:=?_) rfl (by kernel_rfl) (by kernel_rfl) (by kernel_rfl) (by kernel_rfl) (fun _ _ _ h=>h) hHeld (by rfl) ?_ ?_
  rotate_left
  ·intro wz hSz
   (try dsimp only at hSz)
   go_simp
   try with_reducible rfl
  try simp only[Act.put,List.setIfInBounds_toArray,List.set_cons_zero,List.set_cons_succ]
  refine zaa 8 (v:=?_) rfl (by kernel_rfl) (by kernel_rfl) (by kernel_rfl) (by kernel_rfl) (fun _ _ _ h=>h) hHeld (by rfl) ?_ ?_
  rotate_left
  ·intro wz hSz
   (try dsimp only at hSz)
   go_simp
   try with_reducible rfl
  try simp only[Act.put,List.setIfInBounds_toArray,List.set_cons_zero,List.set_cons_succ]
  refine zaa 9 (v:=?_) rfl (by kernel_rfl) (by kernel_rfl) (by kernel_rfl) (by kernel_rfl) (fun _ _ _ h=>h) hHeld (by rfl) ?_ ?_
  rotate_left
  ·intro wz hSz
   (try dsimp only at hSz)
   go_simp
   try with_reducible rfl
  try simp only[Act.put,List.setIfInBounds_toArray,List.set_cons_zero,List.set_cons_succ]
  refine zaa 10 (v:=?_) rfl (by kernel_rfl) (by kernel_rfl) (by kernel_rfl) (by kernel_rfl) (fun _ _ _ h=>h) hHeld (by rfl) ?_ ?_
  rotate_left
  ·intro wz hSz
   (try dsimp only at hSz)
   go_simp
   try with_reducible rfl
  try simp only[Act.put,List.setIfInBounds_toArray,List.set_cons_zero,List.set_cons_succ]
  refine zaa 11 (v:=?_) rfl (by kernel_rfl) (by kernel_rfl) (by kernel_rfl) (by kernel_rfl) (fun _ _ _ h=>h) hHeld (by rfl) ?_ ?_
  rotate_left
  ·intro wz hSz
   (try dsimp only at hSz)
   go_simp
   try with_reducible rfl
  try simp only[Act.put,List.setIfInBounds_toArray,List.set_cons_zero,List.set_cons_succ]
  refine zaa 12 (v:=?_) rfl (by kernel_rfl) (by kernel_rfl) (by kernel_rfl) (by kernel_rfl) (fun _ _ _ h=>h) hHeld (by rfl) ?_ ?_
  rotate_left
  ·intro wz hSz
   (try dsimp only at hSz)
   go_simp
   try with_reducible rfl
  try simp only[Act.put,List.setIfInBounds_toArray,List.set_cons_zero,List.set_cons_succ]
  refine zaf 6 rfl (by kernel_rfl) (fun K hK=>?_)
  go_simp
  go_at_call 161
  refine(HC.out w4.drew hgo0).mono ?_
  rintro en' w5 ⟨he',hb5⟩
  have hf5:Fr NoT w4 w5:=hgo0.trans (Fr.below hb5)
  by_cases hf0:f.1=0
  ·rw[if_pos hf0]at he'
   subst he'
   have hs5:=HS.out _ _ hf5 id id id
   have HF0:=hdq hf0
   try dsimp only
   refine hK.out _ _ hs5 ?_
   clear hK K
   try simp only[Act.put,List.setIfInBounds_toArray,List.set_cons_zero,List.set_cons_succ]
   clear hHeld hf0 hb5
   have hHeld:=hs5
   refine zaf 13 rfl (by kernel_rfl) (fun K hK=>?_)
   go_simp
   go_at_call 161
   refine(HC2.out w5 hf5).mono ?_
   rintro en' w6 ⟨he',hb6⟩
   have hf6:Fr NoT w4 w6:=hf5.trans (Fr.below hb6)
   by_cases hf0:f'.1=0
   ·rw[if_pos hf0]at he'
    subst he'
    have hs6:=HS.out _ _ hf6 id id id
    have HFX:=hdq (show(fltX s.vs s.ls e.args).1 =0 from by rw[HFL.out,if_pos HF0.out];exact hf0)
    have HDD:=hdq (show doE s e i= .inl s from by
     rw[doE,H6.out,if_neg (by decide),if_neg (by decide),if_neg (by decide)]
     simp only
     rw[if_neg (by rw[HFX.out];decide),if_neg (by decide),if_neg (by decide)])
    have f46:=(hf6.cell (p:=⟨B1,4,none⟩) l14 id).trans f44
    have HF6:=hdq hf6
    have HB1:=HKB1.out.fr0 hf6
    have HB2:=HKB2.out.fr0 hf6
    have HR6:=hdq (HR4.out.fr0 hf6)
    have l16:=hf6.low l14
    try dsimp only
    refine hK.out _ _ hs6 ?_
    clear hK K hHeld
    have hHeld:=hs6
    try simp only[Act.put,List.setIfInBounds_toArray,List.set_cons_zero,List.set_cons_succ]
    refine zaf 14 rfl (by kernel_rfl) (fun K hK=>?_)
    go_simp
    refine hK.out _ _ hs6 ?_
    clear hK K
    refine zaf 15 rfl (by kernel_rfl) (fun K hK=>?_)
    go_simp
    refine hK.out _ _ hs6 ?_
    clear hK K
    refine za3 (by kernel_rfl) ?_
    have HK1:=hdq HB1
    have HK2:=hdq HB2
    clear hHeld hs6 hf6 hf0 hf5 hs5 hb6 HB1 HB2
    go_wp2_with fail
    go_at_call 29
    refine(zgH e.cmp v u w6).mono ?_
    rintro _ w7 ⟨rfl,rfl⟩
    by_cases hb:cmpB e.cmp v u=true
    ·rw[hb]
     have HPP:=hdq (show zf0 m s e i r B1 B2 w (.returned (.tuple #[])) w6 from by
      refine⟨(HF4.out.trans HF6.out.any).mono fun b _ h=> .inr (.inr h),?_⟩
      rw[HDD.out]
      refine⟨rfl,⟨As,cs,HR6.out⟩,HK2.out,_,HK1.out,?_⟩
      unfold zad
      rw[if_pos H6.out,HVX.out.1,HVX.out.2,if_pos hb]
      rfl)
     clear hb
     go_wp2_with fail
     go_end0
     exact HPP.out
    ·have hb':cmpB e.cmp v u=false:=by simpa using hb
     rw[hb']
     obtain⟨e',he',hmem',hfr',hnl',hcase⟩:=zdc HM.out HIX.out
     rcases hcase with⟨_,h6',_⟩|⟨j,f,hr,hj,hfm,hk1,hk2,hk3⟩
     ·rw[HE.out]at he'
      obtain rfl:=Option.some.inj he'
      exact absurd H6.out h6'
     clear hk1 hk2 hk3 hfm he' hmem' hfr' hnl'
     obtain⟨bf,of,hA2,hat2⟩:=zlW HR6.out.gr.edges hj
     have hbo2:be=bf∧oe=of:=by
      rw[HAE.out]at hA2
      simp only[Option.some.injEq,Addr.mk.injEq]at hA2
      exact⟨hA2.1,hA2.2.1⟩
     obtain⟨rfl,rfl⟩:=hbo2
     obtain⟨hbB2,g0,g1,g2,g3,g4,⟨A6,c6,g5,hx6⟩,g6,hok2⟩:=hat2.at_ hj
     have hbe6:be < w6.heap.size:=Nat.lt_of_lt_of_le hbB2 HR6.out.lt
     have g2:w6.cell? ⟨be,oe+j*7+2,none⟩=some (.int .u8 f.kind):=g2
     obtain⟨bi,oi,hAi,hbi,cj⟩:=zmw HX.out.sl (j:=1) (i:=j) (by rw[hr];rfl)
     have HAI:=hdq hAi
     have hbiT:=HX.out.nA bi oi hAi
     have hf46:Fr (fun b=>b=B2) w w6:=HF4.out.trans HF6.out.any
     have cj6:=(hf46.cell (p:=⟨bi,oi+1,none⟩) (by have:=HX.out.l1;show bi < w.heap.size;omega) (by have:=HX.out.l2;show ¬bi=B2;omega)).trans cj
     have p06:=(hf46.cell (p:=⟨B0,0,none⟩) l0 hn02).trans p0
     have q66:=(hf46.cell (p:=⟨R,6,none⟩) hRl hnR2).trans q6
     have b3c:=HX.out.b3.fr hf46 HX.out.n32
     have b30:=b3c.cell 0
     have b3l:=b3c.lt
     simp only[List.getElem?_toArray,List.getElem?_cons_succ,List.getElem?_cons_zero]at b30
     rw[hAi,←HIL.out]at b30
     have hbi6:bi < w6.heap.size:=by have:=HX.out.l1;omega
     have l06:=hf46.low l0
     have hRl6:=hf46.low hRl
     have hil3:1 < il:=by rw[HIL.out,hr];simp
     have hil3':(1:Int) < (il:Int):=by omega
     have hj':=(List.getElem?_eq_some_iff.1 hj).1
     rw[←HNE.out]at hj'
     have hj0:(0:Int)≤(j:Int):=by omega
     have hj1:(j:Int) < (ne:Int):=by omega
     have hnbe:¬be=B1:=by have:=HX.out.l1;omega
     have hnbi:¬bi=B1:=by have:=HX.out.l1;omega
     have hn01:¬B0=B1:=HX.out.n01
     have hn31:¬B3=B1:=HX.out.n31
     have k1:=HK1.out
     have u0:=k1.cell 0
     have uf0:=k1.frozen 0
     have u1:=k1.cell 1
     have uf1:=k1.frozen 1
     have u2:=k1.cell 2
     have uf2:=k1.frozen 2
     have u3:=k1.cell 3
     have uf3:=k1.frozen 3
     have u4:=k1.cell 4
     have uf4:=k1.frozen 4
     have u5:=k1.cell 5
     have uf5:=k1.frozen 5
     have u6:=k1.cell 6
     have uf6:=k1.frozen 6
     have ul:=k1.lt
     simp only[edC,List.getElem?_toArray,List.getElem?_cons_succ,List.getElem?_cons_zero]at u0 u1 u2 u3 u4 u5 u6
     have HLT:=hdq (show zad m.c.g s e r=f.to_ from by unfold zad;rw[if_pos H6.out,HVX.out.1,HVX.out.2,if_neg hb,hr];simp only[hj])
     have HF46:=hdq hf46
     clear hb hr hj hat2 hx6 hok2 hA2 cj k1 hAi hf46 b3c
     go_wp2_with fail
     refine zaE (fun W'=>W'.cell? ⟨B0,0,none⟩=some (.pointer (some ⟨R,0,none⟩))∧W'.cell? ⟨R,6,none⟩=some (.slice (some ⟨be,oe,none⟩) ne m.c.ce)∧W'.cell? ⟨B3,0,none⟩=some (.slice (some ⟨bi,oi,none⟩) il co)∧W'.cell? ⟨bi,oi+1,none⟩=some (.int .i64 j)∧W'.cell? ⟨be,oe+j*7,none⟩=some (.int .i64 f.from_)∧W'.cell? ⟨be,oe+j*7+1,none⟩=some (.int .i64 f.to_)∧W'.cell? ⟨be,oe+j*7+2,none⟩=some (.int .u8 f.kind)∧W'.cell? ⟨be,oe+j*7+3,none⟩=some (.int .i64 f.n)∧W'.cell? ⟨be,oe+j*7+4,none⟩=some (.int .u8 f.cmp)∧W'.cell? ⟨be,oe+j*7+5,none⟩=some (.slice A6 f.args.len c6)∧W'.cell? ⟨be,oe+j*7+6,none⟩=some (.int .i64 f.at_)) 11 (by kernel_rfl) ⟨p06,q66,b30,cj6,g0,g1,g2,g3,g4,g5,g6⟩ (fun hHeld=>?_)
     refine zaa 0 (v:=?_) rfl (by kernel_rfl) (by kernel_rfl) (by kernel_rfl) (by kernel_rfl) (fun _ _ _ h=>h) hHeld (by rfl) ?_ ?_
     rotate_left
     ·intro wz hSz
      (try dsimp only at hSz)
      go_simp
      try with_reducible rfl
     try simp only[Act.put,List.setIfInBounds_toArray,List.set_cons_zero,List.set_cons_succ]
     refine zaa 1 (v:=?_) rfl (by kernel_rfl) (by kernel_rfl) (by kernel_rfl) (by kernel_rfl) (fun _ _ _ h=>h) hHeld (by rfl) ?_ ?_
     rotate_left
     ·intro wz hSz
      (try dsimp only at hSz)
      go_simp
      try with_reducible rfl
     try simp only[Act.put,List.setIfInBounds_toArray,List.set_cons_zero,List.set_cons_succ]
     refine zaa 2 (v:=?_) rfl (by kernel_rfl) (by kernel_rfl) (by kernel_rfl) (by kernel_rfl) (fun _ _ _ h=>h) hHeld (by rfl) ?_ ?_
     rotate_left
     ·intro wz hSz
      (try dsimp only at hSz)
      go_simp
      try with_reducible rfl
     try simp only[Act.put,List.setIfInBounds_toArray,List.set_cons_zero,List.set_cons_succ]
     refine zaa 3 (v:=?_) rfl (by kernel_rfl) (by kernel_rfl) (by kernel_rfl) (by kernel_rfl) (fun _ _ _ h=>h) hHeld (by rfl) ?_ ?_
     rotate_left
     ·intro wz hSz
      (try dsimp only at hSz)
      go_simp
      try with_reducible rfl
     try simp only[Act.put,List.setIfInBounds_toArray,List.set_cons_zero,List.set_cons_succ]
     refine zaa 4 (v:=?_) rfl (by kernel_rfl) (by kernel_rfl) (by kernel_rfl) (by kernel_rfl) (fun _ _ _ h=>h) hHeld (by rfl) ?_ ?_
     rotate_left
     ·intro wz hSz
      (try dsimp only at hSz)
      go_simp
      try with_reducible rfl
     try simp only[Act.put,List.setIfInBounds_toArray,List.set_cons_zero,List.set_cons_succ]
     refine zaa 5 (v:=?_) rfl (by kernel_rfl) (by kernel_rfl) (by kernel_rfl) (by kernel_rfl) (fun _ _ _ h=>h) hHeld (by rfl) ?_ ?_
     rotate_left
     ·intro wz hSz
      (try dsimp only at hSz)
      go_simp
      try with_reducible rfl
     try simp only[Act.put,List.setIfInBounds_toArray,List.set_cons_zero,List.set_cons_succ]
     refine zaa 6 (v:=?_) rfl (by kernel_rfl) (by kernel_rfl) (by kernel_rfl) (by kernel_rfl) (fun _ _ _ h=>h) hHeld (by rfl) ?_ ?_
     rotate_left
     ·intro wz hSz
      (try dsimp only at hSz)
      go_simp
      try with_reducible rfl
     try simp only[Act.put,List.setIfInBounds_toArray,List.set_cons_zero,List.set_cons_succ]
     refine zaa 7 (v:=?_) rfl (by kernel_rfl) (by kernel_rfl) (by kernel_rfl) (by kernel_rfl) (fun _ _ _ h=>h) hHeld (by rfl) ?_ ?_
     rotate_left
     ·intro wz hSz
      (try dsimp only at hSz)
      go_simp
      try with_reducible rfl
     try simp only[Act.put,List.setIfInBounds_toArray,List.set_cons_zero,List.set_cons_succ]
     refine zaa 8 (v:=?_) rfl (by kernel_rfl) (by kernel_rfl) (by kernel_rfl) (by kernel_rfl) (fun _ _ _ h=>h) hHeld (by rfl) ?_ ?_
     rotate_left
     ·intro wz hSz
      (try dsimp only at hSz)
      go_simp
      try with_reducible rfl
     try simp only[Act.put,List.setIfInBounds_toArray,List.set_cons_zero,List.set_cons_succ]
     refine zaa 9 (v:=?_) rfl (by kernel_rfl) (by kernel_rfl) (by kernel_rfl) (by kernel_rfl) (fun _ _ _ h=>h) hHeld (by rfl) ?_ ?_
     rotate_left
     ·intro wz hSz
      (try dsimp only at hSz)
      go_simp
      try with_reducible rfl
     try simp only[Act.put,List.setIfInBounds_toArray,List.set_cons_zero,List.set_cons_succ]
     refine zaf 10 rfl (by kernel_rfl) (fun K hK=>?_)
     go_simp
     obtain⟨w8,hw8⟩:=nmq ((((((((w6.setCell ⟨B1,0,none⟩ (.int .i64 f.from_)).setCell ⟨B1,1,none⟩ (.int .i64 f.to_)).setCell ⟨B1,2,none⟩ (.int .u8 f.kind)).setCell ⟨B1,3,none⟩ (.int .i64 f.n)).setCell ⟨B1,4,none⟩ (.int .u8 f.cmp)).setCell ⟨B1,5,none⟩ (.slice A6 f.args.len c6)).setCell ⟨B1,6,none⟩ (.int .i64 f.at_)).drew )
     rw[←hw8]
     have hf8:Fr (fun x=>x=B1) w6 w8:=by rw[hw8];exact((Fr.own (Fr.own (Fr.own (Fr.own (Fr.own (Fr.own (Fr.own (Fr.refl _ _) _ _) _ _) _ _) _ _) _ _) _ _) _ _)).drew
     refine hK.out _ _ ⟨(hf8.cell (p:=⟨B0,0,none⟩) l06 hn01).trans p06,(hf8.cell (p:=⟨R,6,none⟩) hRl6 hnR1).trans q66,(hf8.cell (p:=⟨B3,0,none⟩) b3l hn31).trans b30,(hf8.cell (p:=⟨bi,oi+1,none⟩) hbi6 hnbi).trans cj6,(hf8.cell (p:=⟨be,oe+j*7,none⟩) hbe6 hnbe).trans g0,(hf8.cell (p:=⟨be,oe+j*7+1,none⟩) hbe6 hnbe).trans g1,(hf8.cell (p:=⟨be,oe+j*7+2,none⟩) hbe6 hnbe).trans g2,(hf8.cell (p:=⟨be,oe+j*7+3,none⟩) hbe6 hnbe).trans g3,(hf8.cell (p:=⟨be,oe+j*7+4,none⟩) hbe6 hnbe).trans g4,(hf8.cell (p:=⟨be,oe+j*7+5,none⟩) hbe6 hnbe).trans g5,(hf8.cell (p:=⟨be,oe+j*7+6,none⟩) hbe6 hnbe).trans g6⟩ ?_
     clear hK K
     refine za3 (by kernel_rfl) ?_
     have HPP:=hdq (show zf0 m s e i r B1 B2 w (.returned (.tuple #[])) w8 from by
      refine⟨(HF46.out.mono fun b _ h=> .inr (.inr h)).trans (hf8.mono fun b _ h=> .inr (.inl h)),?_⟩
      rw[HDD.out]
      refine⟨rfl,⟨As,cs,H00.out.at_ (by rw[HN.out];exact HX.out.l1) HR6.out hf8⟩,HK2.out.fr hf8 hn21, #[.int .i64 f.from_,.int .i64 f.to_,.int .u8 f.kind,.int .i64 f.n,.int .u8 f.cmp,.slice A6 f.args.len c6,.int .i64 f.at_],?_,by rw[HLT.out];rfl⟩
      have:=(((((((HK1.out.set_ 0 (.int .i64 f.from_)).set_ 1 (.int .i64 f.to_)).set_ 2 (.int .u8 f.kind)).set_ 3 (.int .i64 f.n)).set_ 4 (.int .u8 f.cmp)).set_ 5 (.slice A6 f.args.len c6)).set_ 6 (.int .i64 f.at_))
      rw[hw8];exact Bk.fr0 (by simpa[edC]using this) (Fr.refl _ _).drew)
     clear hf8 hw8 u0 u1 u2 u3 u4 u5 u6 uf0 uf1 uf2 uf3 uf4 uf5 uf6 g0 g1 g2 g3 g4 g5 g6 hHeld
     go_wp2_with fail
     go_end0
     exact HPP.out
   ·rw[if_neg hf0]at he'
    subst he'
    have HPP:=hdq (show zf0 m s e i r B1 B2 w (fault 246 f') w6 from by
     refine⟨(HF4.out.trans hf6.any).mono fun b _ h=> .inr (.inr h),?_⟩
     rw[show doE s e i= .inr (s.stop 5 f'.1 f'.2 i)from by rw[doE,H6.out,if_neg (by decide),if_neg (by decide),if_neg (by decide),HFL.out];simp only;rw[if_pos HF0.out,if_pos hf0]]
     exact .inl ⟨f',hf0,rfl,rfl,⟨As,cs,HR4.out.fr0 hf6⟩,HKB2.out.fr0 hf6⟩)
    exact⟨rfl,HPP.out⟩
  ·rw[if_neg hf0]at he'
   subst he'
   have HPP:=hdq (show zf0 m s e i r B1 B2 w (fault 246 f) w5 from by
    refine⟨(HF4.out.trans hf5.any).mono fun b _ h=> .inr (.inr h),?_⟩
    rw[show doE s e i= .inr (s.stop 5 f.1 f.2 i)from by rw[doE,H6.out,if_neg (by decide),if_neg (by decide),if_neg (by decide),HFL.out];simp only;rw[if_neg hf0,if_pos hf0]]
    exact .inl ⟨f,hf0,rfl,rfl,⟨As,cs,HR4.out.fr0 hf5⟩,HKB2.out.fr0 hf5⟩)
   exact⟨rfl,HPP.out⟩
 ·have hdo:=zkx m w s As cs i e A5 c5 h hm he hx5 h6
  have HDO:=hdq hdo
  have b6:(e.kind==6)=false:=by simpa using h6
  obtain⟨R,hRR⟩:=nmq m.c.R
  rw[←hRR]at p0 HDO
  obtain⟨ek,hek⟩:=nmq e.kind
  rw[←hek]at f2 HDO b6
  obtain⟨xl,hxl⟩:=nmq e.args.len
  rw[←hxl]at f5 HDO
  have HL:=hdq (show zad m.c.g s e r=e.to_ from by unfold zad;rw[if_neg h6])
  have HEK:=hdq hek
  have HXL:=hdq hxl
  clear hx h hm hix he hx5 h0 hN h6 hdo hRR hek hxl
  go_enter Tryz.func159,Tryz.ntmps159
  go_wp2_with fail
  go_at_call 160
  refine HDO.out.mono ?_
  rintro en w2 ⟨hf2,hd⟩
  have k1:=HX.out.b1.fr hf2 hT1
  have k2:=HX.out.b2.fr hf2 hT2
  have f2':=k1.cell 2
  have l1':=k1.lt
  have r0':=k2.cell 0
  have rf0':=k2.frozen 0
  have l2':=k2.lt
  simp only[edC,List.getElem?_toArray,List.getElem?_cons_succ,List.getElem?_cons_zero]at f2' r0'
  rw[←HEK.out]at f2'
  have hn12:¬B1=B2:=HX.out.n12
  have hn21:¬B2=B1:=fun e=>hn12 e.symm
  have HK1:=hdq k1
  have HK2:=hdq k2
  have HF2:=hdq hf2
  clear k1 k2 hf2
  cases hdo:doE s e i with
  |inl t=>
   rw[hdo]at hd
   obtain⟨rfl,As2,cs2,ht⟩:=hd
   have hfs:Fr (fun b=>b=B2) w2 (w2.setCell ⟨B2,0,none⟩ (.pointer none)):=Fr.own (Fr.refl _ _) _ _
   have HPP:=hdq (show zf0 m s e i r B1 B2 w (.returned (.tuple #[])) (w2.setCell ⟨B2,0,none⟩ (.pointer none))from by
    refine⟨(HF2.out.mono fun b _ h=> .inl h).trans (hfs.mono fun b _ h=> .inr (.inr h)),?_⟩
    rw[hdo]
    refine⟨rfl,⟨As2,cs2,H00.out.at_ (by rw[HN.out];exact HX.out.l2) ht hfs⟩,?_,_,HK1.out.fr hfs hn12,?_⟩
    ·have:=HK2.out.set_ 0 (.pointer none)
     simpa using this
    ·rw[HL.out];rfl)
   clear hfs ht hdo
   go_wp2_with fail
   go_end0
   exact HPP.out
  |inr z=>
   rw[hdo]at hd
   rcases hd with⟨f,hf0,rfl,hz,As2,cs2,ht⟩|⟨k,at_,P,rfl,hz,hP,hPl,As2,cs2,ht⟩
   ·have HPP:=hdq (show zf0 m s e i r B1 B2 w (fault 246 f) w2 from by
     refine⟨HF2.out.mono fun b _ h=> .inl h,?_⟩
     rw[hdo]
     exact .inl ⟨f,hf0,rfl,hz,⟨As2,cs2,ht⟩,HK2.out⟩)
    clear hdo hz ht hf0
    exact⟨rfl,HPP.out⟩
   ·have hfs:Fr (fun b=>b=B2) w2 (w2.setCell ⟨B2,0,none⟩ (.pointer (some ⟨P,0,none⟩))):=Fr.own (Fr.refl _ _) _ _
    have HPP:=hdq (show zf0 m s e i r B1 B2 w (.returned (.tuple #[])) (w2.setCell ⟨B2,0,none⟩ (.pointer (some ⟨P,0,none⟩)))from by
     refine⟨(HF2.out.mono fun b _ h=> .inl h).trans (hfs.mono fun b _ h=> .inr (.inr h)),?_⟩
     rw[hdo]
     refine .inr ⟨k,at_,P,rfl,hz,hP.fr hfs (by show ¬P=B2;have:=l2;omega),hPl,⟨As2,cs2,H00.out.at_ (by rw[HN.out];exact HX.out.l2) ht hfs⟩,?_⟩
     have:=HK2.out.set_ 0 (.pointer (some ⟨P,0,none⟩))
     simpa using this)
    clear hfs ht hdo hz hP
    go_wp2_with fail
    go_end0
    exact HPP.out

def zbL (m:MW) (s:Rs) (w:World) (en:Ending) (w':World):Prop:=
 Fr m.c.T w w'∧match zaP m.c.g s with
  | .inl t=>en= .returned (.pointer none)∧∃As cs,MnR m w' t As cs 0 0 0 0
  | .inr z=>∃(As:Option Addr) (cs:Nat) (t:Rs) (k wr at_ ed:Int) (P:Nat),en= .returned (.pointer (some ⟨P,0,none⟩))∧z=t.stop k wr at_ ed∧Bk w' P 171 #[.int .u8 k,.int .i64 at_]∧w.heap.size≤P∧MnR m w' t As cs 0 wr 0 ed
theorem zeZ {w w':World} {T:Nat→Prop} {B b o c:Nat} {l:List Int} (h:IsSl w B l (some ⟨b,o,none⟩) c) (hf:Fr T w w') (hb:b < w.heap.size) (hT:¬T b):IsSl w' B l (some ⟨b,o,none⟩) c:=by
 refine⟨h.1,h.2.1,fun hp=>?_⟩
 obtain⟨b',o',e,hlt,hh⟩:=h.2.2 hp
 simp only[Option.some.injEq,Addr.mk.injEq]at e
 obtain⟨rfl,rfl,_⟩:=e
 exact⟨b,o,rfl,hlt,fun i n hi=>⟨(hf.cell (p:=⟨b,o+i,none⟩) hb hT).trans (hh i n hi).1,(hh i n hi).2⟩⟩
theorem zal {P:Program} {fn:Func} {p:Tmp} {ty:TypeId} (h:fn.results= #[.cell p ty]) (tmps:Array Value) (w:World) (g:Nat) (v:Value) (t:TypeId) (hu:P.underlying ty=some (.pointer t))
  (hp:tmps.getD p undef= .pointer (some ⟨g,0,none⟩)) (hc:w.cell? ⟨g,0,none⟩=some v):(results fn tmps).run P w= .ok v w:=by
 have hp':tmps[p]?.getD undef= .pointer (some ⟨g,0,none⟩):=by simpa using hp
 simp[results,h,hp',asAddr,go_sem,hc,hu,isAgg,underlying,Sem.run]
theorem MnR.put {m:MW} {w:World} {s:Rs} {As:Option Addr} {cs:Nat} {k wr at_ ed:Int} (h:MnR m w s As cs k wr at_ ed) (i:Nat) (v:Value) {s':Rs} {k' wr' at' ed':Int} (hv:s'.vs=s.vs) (hl:s'.ls=s.ls) (hs:s'.script=s.script)
  (he:((mnC m s As cs k wr at_ ed).set i v)=mnC m s' As cs k' wr' at' ed'):MnR m (w.setCell ⟨m.c.R,i,none⟩ v) s' As cs k' wr' at' ed'∧Fr m.c.T w (w.setCell ⟨m.c.R,i,none⟩ v):=by
 have hf:Fr (fun b=>b=m.c.R) w (w.setCell ⟨m.c.R,i,none⟩ v):=Fr.own (Fr.refl _ _) _ _
 refine⟨h.own hf hv hl (by rw[hs];exact h.sc) ?_,hf.toT m.c.tR⟩
 have:=h.blk.set_ i v
 rw[←he]
 simpa using this
theorem zaH {m:MW} {s t:Rs} {w w':World} {As:Option Addr} {cs:Nat} {k wr at_ ed:Int} {P:Nat} (hd:zaP m.c.g s= .inr (t.stop k wr at_ ed)) (hf:Fr m.c.T w w') (hP:Bk w' P 171 #[.int .u8 k,.int .i64 at_]) (hl:w.heap.size≤P) (h:MnR m w' t As cs 0 wr 0 ed):zbL m s w (.returned (.pointer (some ⟨P,0,none⟩))) w':=by
 refine⟨hf,?_⟩;rw[hd];exact⟨As,cs,t,k,wr,at_,ed,P,rfl,rfl,hP,hl,h⟩
theorem zdd {m:MW} {s t:Rs} {w w':World} {As:Option Addr} {cs:Nat} (hd:zaP m.c.g s= .inl t) (hf:Fr m.c.T w w') (h:MnR m w' t As cs 0 0 0 0):zbL m s w (.returned (.pointer none)) w':=by
 refine⟨hf,?_⟩;rw[hd];exact⟨rfl,As,cs,h⟩

theorem zky (m:MW) (w:World) (s:Rs) (As:Option Addr) (cs:Nat) (h:MnR m w s As cs 0 0 0 0) (hm:mayG m.c.g=true) (hnode:in64 s.node) (hlf:s.left≤65536):
  Calls Tryz.prog 81 #[.pointer (some ⟨m.c.R,0,none⟩)] w (zbL m s w):=by
 obtain⟨A,co,hV,hsl,hnew⟩:=h.map.sl hnode (zcW hm).1
 have hlook:=fun(W:World) (hf:Fr NoT w W)=>(h.map.fr0 hf).look hnode
 rw[hV]at hlook
 have q0:=h.blk.cell 0
 have q6:=h.blk.cell 6
 have q9:=h.blk.cell 9
 have q11:=h.blk.cell 11
 have q12:=h.blk.cell 12
 have q13:=h.blk.cell 13
 have g9:=h.blk.frozen 9
 have g11:=h.blk.frozen 11
 have g12:=h.blk.frozen 12
 have g13:=h.blk.frozen 13
 have hR:m.c.R < w.heap.size:=h.blk.lt
 simp only[mnC,rnC,List.getElem?_toArray,List.getElem?_cons_succ,List.getElem?_cons_zero]at q0 q6 q9 q11 q12 q13
 obtain⟨il,hil⟩:=nmq ((idxE m.c.g.edges s.node m.c.g.edges.length).length )
 rw[←hil]at hlook
 have hil2:il≤2048:=by rw[hil];exact Nat.le_trans (zgL _ _ _) (zcW hm).1
 obtain⟨ne,hne⟩:=nmq m.c.g.edges.length
 rw[←hne]at q6
 have hne2:ne≤2048:=by rw[hne];exact(zcW hm).1
 have HSLT:Hid (∀b,m.c.T b→b < w.heap.size∧∀o,A=some ⟨b,o,none⟩→False):=hdq fun b hb=>⟨h.below b hb,fun o e=>h.mv s.node hnode b (hnew b o e).2 hb⟩
 obtain⟨R,hRR⟩:=nmq m.c.R
 rw[←hRR]at q0 q6 q9 q11 q12 q13 g9 g11 g12 g13 hR ⊢
 obtain⟨lf,hlf'⟩:=nmq s.left
 rw[←hlf']at q13 hlf
 obtain⟨w1,hw1⟩:=nmq ((w.alloc (.cells #[.pointer (some ⟨R,0,none⟩)] 164)).alloc (.cells #[.pointer none] 168))
 have hf1:Fr NoT w w1:=by rw[hw1];exact((Fr.refl _ _).alloc _).alloc _
 have kk:=zbZ w #[.pointer (some ⟨R,0,none⟩)] #[.pointer none] 164 168
 rw[←hw1]at kk
 have hz1:w1.heap.size=w.heap.size+1+1:=by rw[hw1];simp
 have b0:=kk.1.cell 0
 have b0l:=kk.1.lt
 simp only[List.getElem?_toArray,List.getElem?_cons_zero]at b0
 have HH:=hdq h
 have HM:=hdq hm
 have HLOOK:=hdq hlook
 have HIL:=hdq hil
 have HNE:=hdq hne
 have HRR:=hdq hRR
 have HLF:=hdq hlf'
 have HSL:=hdq hsl
 have HW1:=hdq hw1
 have HF1:=hdq hf1
 have HK0:=hdq kk.1
 have HK2:=hdq kk.2
 have HZ1:=hdq hz1
 have hl1:=hlook w1.drew hf1.drew
 have hR1:=hf1.low hR
 have q0':=(hf1.cell (p:=⟨R,0,none⟩) hR id).trans q0
 have q11':=(hf1.cell (p:=⟨R,11,none⟩) hR id).trans q11
 clear h hm hlook hil hne hRR hlf' hw1 hsl hf1 kk hz1 hV hnew
 go_enter Tryz.func81,Tryz.ntmps81
 go_wp2_with fail
 rw[←HW1.out]
 refine zaE (fun W'=>W'.cell? ⟨w.heap.size,0,none⟩=some (.pointer (some ⟨R,0,none⟩))∧W'.cell? ⟨R,0,none⟩=some (.map (some m.b))∧W'.cell? ⟨R,11,none⟩=some (.int .i64 s.node)∧(Instr.lookup 165 (.map (some m.b)) (.int .i64 s.node) false).run Tryz.prog W'= .ok (.slice A il co) W') 12 (by kernel_rfl) ⟨b0,q0',q11',hl1⟩ (fun hHeld=>?_)
 refine zaa 0 (v:=?_) rfl (by kernel_rfl) (by kernel_rfl) (by kernel_rfl) (by kernel_rfl) (fun _ _ _ h=>h) hHeld (by rfl) ?_ ?_
 rotate_left
 ·intro wz hSz
  (try dsimp only at hSz)
  go_simp
  try with_reducible rfl
 try simp only[Act.put,List.setIfInBounds_toArray,List.set_cons_zero,List.set_cons_succ]
 refine zaa 1 (v:=?_) rfl (by kernel_rfl) (by kernel_rfl) (by kernel_rfl) (by kernel_rfl) (fun _ _ _ h=>h) hHeld (by rfl) ?_ ?_
 rotate_left
 ·intro wz hSz
  (try dsimp only at hSz)
  go_simp
  try with_reducible rfl
 try simp only[Act.put,List.setIfInBounds_toArray,List.set_cons_zero,List.set_cons_succ]
 refine zaa 2 (v:=?_) rfl (by kernel_rfl) (by kernel_rfl) (by kernel_rfl) (by kernel_rfl) (fun _ _ _ h=>h) hHeld (by rfl) ?_ ?_
 rotate_left
 ·intro wz hSz
  (try dsimp only at hSz)
  go_simp
  try with_reducible rfl
 try simp only[Act.put,List.setIfInBounds_toArray,List.set_cons_zero,List.set_cons_succ]
 refine zaa 3 (v:=?_) rfl (by kernel_rfl) (by kernel_rfl) (by kernel_rfl) (by kernel_rfl) (fun _ _ _ h=>h) hHeld (by rfl) ?_ ?_
 rotate_left
 ·intro wz hSz
  (try dsimp only at hSz)
  go_simp
  try with_reducible rfl
 try simp only[Act.put,List.setIfInBounds_toArray,List.set_cons_zero,List.set_cons_succ]
 refine zaa 4 (v:=?_) rfl (by kernel_rfl) (by kernel_rfl) (by kernel_rfl) (by kernel_rfl) (fun _ _ _ h=>h) hHeld (by rfl) ?_ ?_
 rotate_left
 ·intro wz hSz
  (try dsimp only at hSz)
  go_simp
  try with_reducible rfl
 try simp only[Act.put,List.setIfInBounds_toArray,List.set_cons_zero,List.set_cons_succ]
 refine zaa 5 (v:=?_) rfl (by kernel_rfl) (by kernel_rfl) (by kernel_rfl) (by kernel_rfl) (fun _ _ _ h=>h) hHeld (by rfl) ?_ ?_
 rotate_left
 ·intro wz hSz
  (try dsimp only at hSz)
  go_simp
  try with_reducible rfl
 try simp only[Act.put,List.setIfInBounds_toArray,List.set_cons_zero,List.set_cons_succ]
 refine zaa 6 (v:=?_) rfl (by kernel_rfl) (by kernel_rfl) (by kernel_rfl) (by kernel_rfl) (fun _ _ _ h=>h) hHeld (by rfl) ?_ ?_
 rotate_left
 ·intro wz hSz
  (try dsimp only at hSz)
  go_simp
  try with_reducible rfl
 try simp only[Act.put,List.setIfInBounds_toArray,List.set_cons_zero,List.set_cons_succ]
 refine zaa 7 (v:=?_) rfl (by kernel_rfl) (by kernel_rfl) (by kernel_rfl) (by kernel_rfl) (fun _ _ _ h=>h) hHeld (by rfl) ?_ ?_
 rotate_left
 ·intro wz hSz
  (try dsimp only at hSz)
  go_simp
  try with_reducible rfl
 try simp only[Act.put,List.setIfInBounds_toArray,List.set_cons_zero,List.set_cons_succ]
 refine zaa 8 (v:=?_) rfl (by kernel_rfl) (by kernel_rfl) (by kernel_rfl) (by kernel_rfl) (fun _ _ _ h=>h) hHeld (by rfl) ?_ ?_
 rotate_left
 ·intro wz hSz
  (try dsimp only at hSz)
  go_simp
  try with_reducible rfl
 try simp only[Act.put,List.setIfInBounds_toArray,List.set_cons_zero,List.set_cons_succ]
 refine zaa 9 (v:=?_) rfl (by kernel_rfl) (by kernel_rfl) (by kernel_rfl) (by kernel_rfl) (fun _ _ _ h=>h) hHeld (by rfl) ?_ ?_
 rotate_left
 ·intro wz hSz
  (try dsimp only at hSz)
  go_simp
  try with_reducible rfl
 try simp only[Act.put,List.setIfInBounds_toArray,List.set_cons_zero,List.set_cons_succ]
 refine zaf 10 rfl (by kernel_rfl) (fun K hK=>?_)
 go_simp
 obtain⟨w2,hw2⟩:=nmq ((w1.alloc (.cells #[.slice none 0 0] 37)).drew )
 have hf2:Fr NoT w1 w2:=by rw[hw2];exact((Fr.refl _ _).alloc _).drew
 have k2:Bk w2 w1.heap.size 37 #[.slice none 0 0]:=by rw[hw2];exact(Bk.new _ _ _).fr0 (Fr.refl _ _).drew
 rw[←hw2]
 have HW2:=hdq hw2
 clear hw2
 have hS2:w2.cell? ⟨w.heap.size,0,none⟩=some (.pointer (some ⟨R,0,none⟩))∧w2.cell? ⟨R,0,none⟩=some (.map (some m.b))∧w2.cell? ⟨R,11,none⟩=some (.int .i64 s.node)∧(Instr.lookup 165 (.map (some m.b)) (.int .i64 s.node) false).run Tryz.prog w2= .ok (.slice A il co) w2:=⟨(hf2.cell (p:=⟨w.heap.size,0,none⟩) b0l id).trans b0,(hf2.cell (p:=⟨R,0,none⟩) hR1 id).trans q0',(hf2.cell (p:=⟨R,11,none⟩) hR1 id).trans q11',HLOOK.out w2 (HF1.out.trans hf2)⟩
 try dsimp only
 refine hK.out _ _ hS2 ?_
 clear hK K
 try simp only[Act.put,List.setIfInBounds_toArray,List.set_cons_zero,List.set_cons_succ]
 have t0:=k2.cell 0
 have tf0:=k2.frozen 0
 have tl:=k2.lt
 simp only[List.getElem?_toArray,List.getElem?_cons_zero]at t0
 refine zaf 11 rfl (by kernel_rfl) (fun K hK=>?_)
 go_simp
 obtain⟨w3,hw3⟩:=nmq (w2.setCell ⟨w1.heap.size,0,none⟩ (.slice A il co))
 rw[←hw3]
 have hf13:Fr NoT w1 w3:=by rw[hw3];exact hf2.high (Nat.le_refl _) _ _
 have k3:Bk w3 w1.heap.size 37 #[.slice A il co]:=by
  have:=k2.set_ 0 (.slice A il co)
  rw[hw3];simpa using this
 have hS3:w3.cell? ⟨w.heap.size,0,none⟩=some (.pointer (some ⟨R,0,none⟩))∧w3.cell? ⟨R,0,none⟩=some (.map (some m.b))∧w3.cell? ⟨R,11,none⟩=some (.int .i64 s.node)∧(Instr.lookup 165 (.map (some m.b)) (.int .i64 s.node) false).run Tryz.prog w3= .ok (.slice A il co) w3:=⟨(hf13.cell (p:=⟨w.heap.size,0,none⟩) b0l id).trans b0,(hf13.cell (p:=⟨R,0,none⟩) hR1 id).trans q0',(hf13.cell (p:=⟨R,11,none⟩) hR1 id).trans q11',HLOOK.out w3 (HF1.out.trans hf13)⟩
 refine hK.out _ _ hS3 ?_
 clear hK K hHeld
 refine za3 (by kernel_rfl) ?_
 have HF3:=hdq (HF1.out.trans hf13)
 have HK3:=hdq k3
 have HK0':=hdq (HK0.out.fr0 hf13)
 have HK2':=hdq (HK2.out.fr0 hf13)
 have HR3:=hdq (HH.out.fr0 HF3.out)
 have c3:=k3.cell 0
 have c3l:=k3.lt
 have c2:=HK2'.out.cell 0
 have c2f:=HK2'.out.frozen 0
 have c2l:=HK2'.out.lt
 have c0:=hS3.1
 have c0l:=HK0'.out.lt
 have hR3:=HF3.out.low hR
 simp only[List.getElem?_toArray,List.getElem?_cons_zero]at c3 c2
 clear k2 k3 hw3 hS2 hS3 hf2 hf13 t0 tf0 tl b0 hl1 q0' q11'
 have hz1:w.heap.size+1 < w1.heap.size:=by have:=HZ1.out;omega
 have hz3:w1.heap.size < w3.heap.size:=c3l
 by_cases hi0:il=0
 ·have hix:idxE m.c.g.edges s.node m.c.g.edges.length= []:=List.length_eq_zero_iff.1 (by rw[←HIL.out];exact hi0)
  subst hi0
  obtain⟨wf,hwf⟩:=nmq ((w3.setCell ⟨w.heap.size+1,0,none⟩ (.pointer (some ⟨w3.heap.size,0,none⟩))).alloc (.cells #[.int .u8 4,.int .i64 0] 171))
  have hff:Fr (fun x=>w.heap.size≤x) w wf:=by rw[hwf];exact(HF3.out.any.high (by omega) _ _).alloc _
  have hff0:Fr NoT w wf:=Fr.below (hff.to_below (Nat.le_refl _) fun x hx=>Nat.not_le.2 hx)
  have hP:Bk wf w3.heap.size 171 #[.int .u8 4,.int .i64 0]:=by rw[hwf];exact Bk.new_at _ _ _ (by simp)
  have HPP:=hdq (show zbL m s w (.returned (.pointer (some ⟨w3.heap.size,0,none⟩))) wf from zaH (zfW hix) hff0.any hP (by omega) (HH.out.fr0 hff0))
  have hc:wf.cell? ⟨w.heap.size+1,0,none⟩=some (.pointer (some ⟨w3.heap.size,0,none⟩)):=by
   have:=((HK2'.out.set_ 0 (.pointer (some ⟨w3.heap.size,0,none⟩))).alloc (.cells #[.int .u8 4,.int .i64 0] 171)).cell 0
   rw[hwf];simpa using this
  have HWF:=hdq hwf
  have HC:=hdq hc
  clear hix hwf hff hff0 hP hc
  go_wp2_with fail
  rw[←HWF.out]
  exact bodyPost_ret (zal (p:=2) (ty:=168) rfl _ _ (w.heap.size+1) _ _ Tryz.underlying168 rfl HC.out) rfl HPP.out
 ·obtain⟨i,r,hix⟩:∃i r,idxE m.c.g.edges s.node m.c.g.edges.length=i::r:=by
   cases hq:idxE m.c.g.edges s.node m.c.g.edges.length with
   |nil=>rw[HIL.out,hq]at hi0;exact absurd rfl hi0
   |cons i r=>exact⟨i,r,rfl⟩
  have hsl:=HSL.out
  rw[hix]at hsl
  obtain⟨bi,oi,rfl,hbi,ci⟩:=zmw hsl (j:=0) rfl
  have ci:w.cell? ⟨bi,oi,none⟩=some (.int .i64 i):=ci
  have hbiw:bi < w.heap.size:=hbi
  have hnT:¬m.c.T bi:=fun h=>(HSLT.out bi h).2 oi rfl
  obtain⟨e,he,hmem,hfr,hnl,hcase⟩:=zdc HM.out hix
  obtain⟨be,oe,hAe,hat⟩:=zlW HH.out.gr.edges he
  obtain⟨hbe,e0,e1,e2,e3,e4,⟨A5,c5,e5,hx5⟩,e6,hok⟩:=hat.at_ he
  have hbew:be < w.heap.size:=Nat.lt_of_lt_of_le hbe HH.out.lt
  have e2:w.cell? ⟨be,oe+i*7+2,none⟩=some (.int .u8 e.kind):=e2
  rw[hAe]at q6
  obtain⟨ek,hek⟩:=nmq e.kind
  rw[←hek]at e2
  have hi':=(List.getElem?_eq_some_iff.1 he).1
  rw[←HNE.out]at hi'
  have hin0:(0:Int)≤(i:Int):=by omega
  have hin1:(i:Int) < (ne:Int):=by omega
  have hil0:0 < il:=by omega
  have hil1:(0:Int) < (il:Int):=by omega
  have hil3:((il:Int)==0)=false:=by simp;omega
  have hnTe:¬m.c.T be:=fun h=>by have:=HH.out.low _ h;omega
  have HILR:=hdq (show il=(i::r).length from by rw[HIL.out,hix])
  have HSLA:=hdq hsl
  have HIX:=hdq hix
  have HE:=hdq he
  have HX5:=hdq hx5
  have HEK:=hdq hek
  have HFRM:=hdq hfr
  have hnRi:¬bi=R:=fun e=>hnT (by rw[e,HRR.out];exact m.c.tR)
  have hnRi':¬R=bi:=fun e=>hnRi e.symm
  have hnRe:¬be=R:=fun e=>hnTe (by rw[e,HRR.out];exact m.c.tR)
  have hnR0:¬w.heap.size=R:=by omega
  have hnR0':¬R=w.heap.size:=by omega
  have hnR3:¬w1.heap.size=R:=by omega
  have hnR3':¬R=w1.heap.size:=by omega
  have q123:=(HF3.out.cell (p:=⟨R,12,none⟩) hR id).trans q12
  have g123:=(HF3.out.frozen (p:=⟨R,12,none⟩) hR id).trans g12
  have ci3:=(HF3.out.cell (p:=⟨bi,oi,none⟩) hbiw id).trans ci
  have hbi3:=HF3.out.low hbiw
  have HAE:=hdq hAe
  clear hix hsl hi0 he hmem hfr hnl hcase hat hx5 hok hek hAe
  go_wp2_with fail
  go_region
  go_wp2_with fail
  obtain⟨w4,hw4⟩:=nmq ((w3.setCell ⟨R,12,none⟩ (.int .i64 i)).drew )
  rw[←hw4]
  have p1:=HR3.out.put 12 (.int .i64 i) (s':=s) (k':=0) (wr':=0) (at':=0) (ed':=i) rfl rfl rfl rfl
  have hf4:Fr m.c.T w w4:=by rw[hw4,HRR.out];exact(HF3.out.any.trans p1.2).drew
  have hr4:MnR m w4 s As cs 0 0 0 i:=by rw[hw4,HRR.out];exact p1.1.fr0 (Fr.refl _ _).drew
  have hf34:Fr (fun b=>b=R) w3 w4:=by rw[hw4];exact(Fr.own (Fr.refl _ _) _ _).drew
  have HZ4:=hdq (show w1.heap.size < w4.heap.size from by rw[hw4];simp[World.drew];exact hz3)
  have HF4:=hdq hf4
  have HR4:=hdq hr4
  have HF34:=hdq hf34
  clear hw4 p1 hr4
  have a0:=(hf34.cell (p:=⟨w.heap.size,0,none⟩) c0l hnR0).trans c0
  have a3:=(hf34.cell (p:=⟨w1.heap.size,0,none⟩) c3l hnR3).trans c3
  have aci:=(hf34.cell (p:=⟨bi,oi,none⟩) hbi3 hnRi).trans ci3
  have a6:=HR4.out.blk.cell 6
  have hR4:=HR4.out.blk.lt
  simp only[mnC,rnC,List.getElem?_toArray,List.getElem?_cons_succ,List.getElem?_cons_zero]at a6
  have hAe2:m.c.Ae=some ⟨be,oe,none⟩:=HAE.out
  rw[hAe2,←HNE.out,←HRR.out]at a6
  rw[←HRR.out]at hR4
  have hz34:w1.heap.size < w4.heap.size:=HZ4.out
  have hbi4:bi < w4.heap.size:=by omega
  have hbe4:be < w4.heap.size:=by omega
  have h04:w.heap.size < w4.heap.size:=by omega
  have x0:=(hf4.cell (p:=⟨be,oe+i*7,none⟩) hbew hnTe).trans e0
  have x1:=(hf4.cell (p:=⟨be,oe+i*7+1,none⟩) hbew hnTe).trans e1
  have x2:=(hf4.cell (p:=⟨be,oe+i*7+2,none⟩) hbew hnTe).trans e2
  have x3:=(hf4.cell (p:=⟨be,oe+i*7+3,none⟩) hbew hnTe).trans e3
  have x4:=(hf4.cell (p:=⟨be,oe+i*7+4,none⟩) hbew hnTe).trans e4
  have x5:=(hf4.cell (p:=⟨be,oe+i*7+5,none⟩) hbew hnTe).trans e5
  have x6:=(hf4.cell (p:=⟨be,oe+i*7+6,none⟩) hbew hnTe).trans e6
  have hS:∀(T:Nat→Prop) (W':World),Fr T w4 W'→¬T w.heap.size→¬T R→¬T w1.heap.size→¬T bi→¬T be→(W'.cell? ⟨w.heap.size,0,none⟩=some (.pointer (some ⟨R,0,none⟩))∧W'.cell? ⟨R,6,none⟩=some (.slice (some ⟨be,oe,none⟩) ne m.c.ce)∧W'.cell? ⟨w1.heap.size,0,none⟩=some (.slice (some ⟨bi,oi,none⟩) il co)∧W'.cell? ⟨bi,oi,none⟩=some (.int .i64 i)∧W'.cell? ⟨be,oe+i*7,none⟩=some (.int .i64 e.from_)∧W'.cell? ⟨be,oe+i*7+1,none⟩=some (.int .i64 e.to_)∧W'.cell? ⟨be,oe+i*7+2,none⟩=some (.int .u8 ek)∧W'.cell? ⟨be,oe+i*7+3,none⟩=some (.int .i64 e.n)∧W'.cell? ⟨be,oe+i*7+4,none⟩=some (.int .u8 e.cmp)∧W'.cell? ⟨be,oe+i*7+5,none⟩=some (.slice A5 e.args.len c5)∧W'.cell? ⟨be,oe+i*7+6,none⟩=some (.int .i64 e.at_)):=fun T W' hf u1 u2 u3 u4 u5=>⟨(hf.cell (p:=⟨w.heap.size,0,none⟩) h04 u1).trans a0,(hf.cell (p:=⟨R,6,none⟩) hR4 u2).trans a6,(hf.cell (p:=⟨w1.heap.size,0,none⟩) hz34 u3).trans a3,(hf.cell (p:=⟨bi,oi,none⟩) hbi4 u4).trans aci,(hf.cell (p:=⟨be,oe+i*7,none⟩) hbe4 u5).trans x0,(hf.cell (p:=⟨be,oe+i*7+1,none⟩) hbe4 u5).trans x1,(hf.cell (p:=⟨be,oe+i*7+2,none⟩) hbe4 u5).trans x2,(hf.cell (p:=⟨be,oe+i*7+3,none⟩) hbe4 u5).trans x3,(hf.cell (p:=⟨be,oe+i*7+4,none⟩) hbe4 u5).trans x4,(hf.cell (p:=⟨be,oe+i*7+5,none⟩) hbe4 u5).trans x5,(hf.cell (p:=⟨be,oe+i*7+6,none⟩) hbe4 u5).trans x6⟩
  have HS:=hdq hS
  clear hS hf4 hf34 e0 e1 e2 e3 e4 e5 e6 c3 c0 ci3 q123 g123
  refine zaE (fun W'=>W'.cell? ⟨w.heap.size,0,none⟩=some (.pointer (some ⟨R,0,none⟩))∧W'.cell? ⟨R,6,none⟩=some (.slice (some ⟨be,oe,none⟩) ne m.c.ce)∧W'.cell? ⟨w1.heap.size,0,none⟩=some (.slice (some ⟨bi,oi,none⟩) il co)∧W'.cell? ⟨bi,oi,none⟩=some (.int .i64 i)∧W'.cell? ⟨be,oe+i*7,none⟩=some (.int .i64 e.from_)∧W'.cell? ⟨be,oe+i*7+1,none⟩=some (.int .i64 e.to_)∧W'.cell? ⟨be,oe+i*7+2,none⟩=some (.int .u8 ek)∧W'.cell? ⟨be,oe+i*7+3,none⟩=some (.int .i64 e.n)∧W'.cell? ⟨be,oe+i*7+4,none⟩=some (.int .u8 e.cmp)∧W'.cell? ⟨be,oe+i*7+5,none⟩=some (.slice A5 e.args.len c5)∧W'.cell? ⟨be,oe+i*7+6,none⟩=some (.int .i64 e.at_)) 12 (by kernel_rfl) (HS.out NoT _ (Fr.refl _ _).drew id id id id id) (fun hHeld=>?_)
  refine zaa 0 (v:=?_) rfl (by kernel_rfl) (by kernel_rfl) (by kernel_rfl) (by kernel_rfl) (fun _ _ _ h=>h) hHeld (by rfl) ?_ ?_
  rotate_left
  ·intro wz hSz
   (try dsimp only at hSz)
   go_simp
   try with_reducible rfl
  try simp only[Act.put,List.setIfInBounds_toArray,List.set_cons_zero,List.set_cons_succ]
  refine zaa 1 (v:=?_) rfl (by kernel_rfl) (by kernel_rfl) (by kernel_rfl) (by kernel_rfl) (fun _ _ _ h=>h) hHeld (by rfl) ?_ ?_
  rotate_left
  ·intro wz hSz
   (try dsimp only at hSz)
   go_simp
   try with_reducible rfl
  try simp only[Act.put,List.setIfInBounds_toArray,List.set_cons_zero,List.set_cons_succ]
  refine zaa 2 (v:=?_) rfl (by kernel_rfl) (by kernel_rfl) (by kernel_rfl) (by kernel_rfl) (fun _ _ _ h=>h) hHeld (by rfl) ?_ ?_
  rotate_left
  ·intro wz hSz
   (try dsimp only at hSz)
   go_simp
   try with_reducible rfl
  try simp only[Act.put,List.setIfInBounds_toArray,List.set_cons_zero,List.set_cons_succ]
  refine zaa 3 (v:=?_) rfl (by kernel_rfl) (by kernel_rfl) (by kernel_rfl) (by kernel_rfl) (fun _ _ _ h=>h) hHeld (by rfl) ?_ ?_
  rotate_left
  ·intro wz hSz
   (try dsimp only at hSz)
   go_simp
   try with_reducible rfl
  try simp only[Act.put,List.setIfInBounds_toArray,List.set_cons_zero,List.set_cons_succ]
  refine zaa 4 (v:=?_) rfl (by kernel_rfl) (by kernel_rfl) (by kernel_rfl) (by kernel_rfl) (fun _ _ _ h=>h) hHeld (by rfl) ?_ ?_
  rotate_left
  ·intro wz hSz
   (try dsimp only at hSz)
   go_simp
   try with_reducible rfl
  try simp only[Act.put,List.setIfInBounds_toArray,List.set_cons_zero,List.set_cons_succ]
  refine zaa 5 (v:=?_) rfl (by kernel_rfl) (by kernel_rfl) (by kernel_rfl) (by kernel_rfl) (fun _ _ _ h=>h) hHeld (by rfl) ?_ ?_
  rotate_left
  ·intro wz hSz
   (try dsimp only at hSz)
   go_simp
   try with_reducible rfl
  try simp only[Act.put,List.setIfInBounds_toArray,List.set_cons_zero,List.set_cons_succ]
  refine zaa 6 (v:=?_) rfl (by kernel_rfl) (by kernel_rfl) (by kernel_rfl) (by kernel_rfl) (fun _ _ _ h=>h) hHeld (by rfl) ?_ ?_
  rotate_left
  ·intro wz hSz
   (try dsimp only at hSz)
   go_simp
   try with_reducible rfl
  try simp only[Act.put,List.setIfInBounds_toArray,List.set_cons_zero,List.set_cons_succ]
  refine zaa 7 (v:=?_) rfl (by kernel_rfl) (by kernel_rfl) (by kernel_rfl) (by kernel_rfl) (fun _ _ _ h=>h) hHeld (by rfl) ?_ ?_
  rotate_left
  ·intro wz hSz
   (try dsimp only at hSz)
   go_simp
   try with_reducible rfl
  try simp only[Act.put,List.setIfInBounds_toArray,List.set_cons_zero,List.set_cons_succ]
  refine zaa 8 (v:=?_) rfl (by kernel_rfl) (by kernel_rfl) (by kernel_rfl) (by kernel_rfl) (fun _ _ _ h=>h) hHeld (by rfl) ?_ ?_
  rotate_left
  ·intro wz hSz
   (try dsimp only at hSz)
   go_simp
   try with_reducible rfl
  try simp only[Act.put,List.setIfInBounds_toArray,List.set_cons_zero,List.set_cons_succ]
  refine zaa 9 (v:=?_) rfl (by kernel_rfl) (by kernel_rfl) (by kernel_rfl) (by kernel_rfl) (fun _ _ _ h=>h) hHeld (by rfl) ?_ ?_
  rotate_left
  ·intro wz hSz
   (try dsimp only at hSz)
   go_simp
   try with_reducible rfl
  try simp only[Act.put,List.setIfInBounds_toArray,List.set_cons_zero,List.set_cons_succ]
  refine zaf 10 rfl (by kernel_rfl) (fun K hK=>?_)
  go_simp
  obtain⟨w5,hw5⟩:=nmq ((w4.alloc (.cells #[.int .i64 0,.int .i64 0,.int .u8 0,.int .i64 0,.int .u8 0,.slice none 0 0,.int .i64 0] 47)).drew )
  have hf5:Fr NoT w4 w5:=by rw[hw5];exact((Fr.refl _ _).alloc _).drew
  have k5:Bk w5 w4.heap.size 47 #[.int .i64 0,.int .i64 0,.int .u8 0,.int .i64 0,.int .u8 0,.slice none 0 0,.int .i64 0]:=by rw[hw5];exact(Bk.new _ _ _).fr0 (Fr.refl _ _).drew
  rw[←hw5]
  have HW5:=hdq hw5
  have hs5:=HS.out _ _ hf5 id id id id id
  try dsimp only
  refine hK.out _ _ hs5 ?_
  clear hK K hw5
  try simp only[Act.put,List.setIfInBounds_toArray,List.set_cons_zero,List.set_cons_succ]
  have y0:=k5.cell 0
  have yf0:=k5.frozen 0
  have y1:=k5.cell 1
  have yf1:=k5.frozen 1
  have y2:=k5.cell 2
  have yf2:=k5.frozen 2
  have y3:=k5.cell 3
  have yf3:=k5.frozen 3
  have y4:=k5.cell 4
  have yf4:=k5.frozen 4
  have y5:=k5.cell 5
  have yf5:=k5.frozen 5
  have y6:=k5.cell 6
  have yf6:=k5.frozen 6
  have yl:=k5.lt
  simp only[List.getElem?_toArray,List.getElem?_cons_succ,List.getElem?_cons_zero]at y0 y1 y2 y3 y4 y5 y6
  refine zaf 11 rfl (by kernel_rfl) (fun K hK=>?_)
  go_simp
  obtain⟨w6,hw6⟩:=nmq ((((((((w5.setCell ⟨w4.heap.size,0,none⟩ (.int .i64 e.from_)).setCell ⟨w4.heap.size,1,none⟩ (.int .i64 e.to_)).setCell ⟨w4.heap.size,2,none⟩ (.int .u8 ek)).setCell ⟨w4.heap.size,3,none⟩ (.int .i64 e.n)).setCell ⟨w4.heap.size,4,none⟩ (.int .u8 e.cmp)).setCell ⟨w4.heap.size,5,none⟩ (.slice A5 e.args.len c5)).setCell ⟨w4.heap.size,6,none⟩ (.int .i64 e.at_)))
  rw[←hw6]
  have hf46:Fr NoT w4 w6:=by
   have h1:Fr (fun x=>x=w4.heap.size) w5 w6:=by rw[hw6];exact(Fr.own (Fr.own (Fr.own (Fr.own (Fr.own (Fr.own (Fr.own (Fr.refl _ _) _ _) _ _) _ _) _ _) _ _) _ _) _ _)
   exact hf5.then h1 fun b hb e=>by have e:b=w4.heap.size:=e;omega
  have k6:Bk w6 w4.heap.size 47 #[.int .i64 e.from_,.int .i64 e.to_,.int .u8 ek,.int .i64 e.n,.int .u8 e.cmp,.slice A5 e.args.len c5,.int .i64 e.at_]:=by
   have:=(((((((k5.set_ 0 (.int .i64 e.from_)).set_ 1 (.int .i64 e.to_)).set_ 2 (.int .u8 ek)).set_ 3 (.int .i64 e.n)).set_ 4 (.int .u8 e.cmp)).set_ 5 (.slice A5 e.args.len c5)).set_ 6 (.int .i64 e.at_))
   rw[hw6];simpa using this
  refine hK.out _ _ (HS.out _ _ hf46 id id id id id) ?_
  clear hK K hHeld
  refine za3 (by kernel_rfl) ?_
  have HF6:=hdq (HF4.out.trans hf46.any)
  have HR6:=hdq (HR4.out.fr0 hf46)
  have HB0:=hdq ((HK0'.out.fr HF34.out hnR0).fr0 hf46)
  have HB1:=hdq k6
  have HB2:=hdq ((HK2'.out.fr HF34.out (by show ¬w.heap.size+1=R;omega)).fr0 hf46)
  have HB3:=hdq ((HK3.out.fr HF34.out hnR3).fr0 hf46)
  have d2:=k6.cell 2
  have d6:=k6.cell 6
  have dl:=k6.lt
  have d13:=HR6.out.blk.cell 13
  have d13f:=HR6.out.blk.frozen 13
  have d13l:=HR6.out.blk.lt
  have r0:=HB0.out.cell 0
  have r0l:=HB0.out.lt
  have r2:=HB2.out.cell 0
  have r2f:=HB2.out.frozen 0
  have r2l:=HB2.out.lt
  simp only[mnC,rnC,List.getElem?_toArray,List.getElem?_cons_succ,List.getElem?_cons_zero]at d2 d6 d13 r2 r0
  rw[←HLF.out,←HRR.out]at d13
  rw[←HRR.out]at d13f d13l
  clear k5 k6 hf5 hf46 hs5 hw6 y0 yf0 y1 yf1 y2 yf2 y3 yf3 y4 yf4 y5 yf5 y6 yf6 yl x0 x1 x2 x3 x4 x5 x6 a0 a3 a6 aci
  by_cases k1:ek=1
  ·subst k1
   have HNC:=hdq (show ¬(zbp e.kind=true∧s.left=0)from by rw[←HEK.out];simp[zbp])
   have HRP:=hdq (show MnR m w6 (s.pay e) As cs 0 0 0 i from by rw[zeW (by rw[←HEK.out];rfl)];exact HR6.out)
   have HFW:=HF6
   have HKW0:=HB0
   have HKW1:=HB1
   have HKW2:=HB2
   have HKW3:=HB3
   have hnx:NxE m (w6.alloc (.cells #[.int .u8 0,.int .i64 0] 246)) e A5 c5 (i::r) (some ⟨bi,oi,none⟩) co w.heap.size w.heap.size w4.heap.size (w.heap.size+1) w1.heap.size:=by
    have hz1:=HZ1.out
    have hz4:=HZ4.out
    refine⟨by rw[←HRR.out];exact HKW0.out.alloc _,?_,HKW2.out.alloc _,?_,?_,HH.out.below,?_,Nat.le_refl _,by omega,by omega,by omega,by omega,by omega,by omega,by omega,by omega⟩
    ·have:=HKW1.out.alloc (.cells #[.int .u8 0,.int .i64 0] 246)
     unfold edC
     rw[←HEK.out]
     exact this
    ·have:=HKW3.out.alloc (.cells #[.int .u8 0,.int .i64 0] 246)
     rw[HILR.out]at this
     exact this
    ·exact zeZ HSLA.out (HFW.out.alloc (.cells #[.int .u8 0,.int .i64 0] 246)) hbiw hnT
    ·intro b' o' e'
     simp only[Option.some.injEq,Addr.mk.injEq]at e'
     rw[←e'.1];exact hnT
   have HNX:=hdq (zcb m (w6.alloc (.cells #[.int .u8 0,.int .i64 0] 246)) (s.pay e) As cs i r e A5 c5 (some ⟨bi,oi,none⟩) co w.heap.size w.heap.size w4.heap.size (w.heap.size+1) w1.heap.size HH.out rfl (HRP.out.fr0 ((Fr.refl _ _).alloc _)) HM.out HIX.out HE.out (HX5.out.keep (Same.of_fr (HFW.out.alloc (.cells #[.int .u8 0,.int .i64 0] 246)) HH.out.lt HH.out.low)) hnx)
   have HBF:=hdq (Bk.new w6 246 #[.int .u8 0,.int .i64 0])
   have hTW:∀b,m.c.T b→b < w.heap.size:=HH.out.below
   have hWl:=HKW1.out.lt
   have HLE:=hdq (show zad m.c.g (s.pay e) e r=zad m.c.g s e r from rfl)
   have HWA:=hdq (show w.heap.size < w6.heap.size from by have:=HKW0.out.lt;exact this)
   have hz1':w.heap.size+1 < w1.heap.size:=by have:=HZ1.out;omega
   have hz4':w1.heap.size < w4.heap.size:=by have:=HZ4.out;omega
   have hnB0:¬(m.c.T w.heap.size∨w.heap.size=w4.heap.size∨w.heap.size=w.heap.size+1):=by
    rintro(hb|hb|hb)
    ·have:=hTW _ hb;omega
    ·omega
    ·omega
   clear hnx
   go_wp2_with fail
   go_at_call 158
   cases hdo:doE (s.pay e) e i with
   |inl t=>
    have HST:=hdq (show zaP m.c.g s= .inl {t with node:=zad m.c.g s e r}from by rw[zbH HIX.out HE.out HNC.out,hdo])
    refine(zc2 159 #[.pointer (some ⟨w.heap.size,0,none⟩),.pointer (some ⟨w4.heap.size,0,none⟩),.pointer (some ⟨w.heap.size+1,0,none⟩),.pointer (some ⟨w1.heap.size,0,none⟩)] (fun w'=>Fr (fun b=>m.c.T b∨b=w4.heap.size∨b=w.heap.size+1) (w6.alloc (.cells #[.int .u8 0,.int .i64 0] 246)) w'∧(∃As cs,MnR m w' t As cs 0 0 0 i)∧Bk w' (w.heap.size+1) 168 #[.pointer none]∧∃C:Array Value,Bk w' w4.heap.size 47 C∧C[1]?=some (.int .i64 (zad m.c.g s e r))) w6 (enters_of Tryz.func159 (by kernel_rfl) rfl) (HNX.out.mono fun en w' hn=>?_)).mono ?_
    ·obtain⟨hf,hd⟩:=hn
     rw[hdo]at hd
     obtain⟨rfl,⟨As2,cs2,ht⟩,hb2,C,hb1,hC⟩:=hd
     refine⟨rfl,⟨hf,⟨As2,cs2,ht⟩,hb2,C,hb1,hC⟩,HBF.out.fr hf ?_⟩
     rintro(hb|hb|hb)
     ·have:=hTW _ hb;omega
     ·omega
     ·omega
    ·rintro _ w9 ⟨rfl,hf,⟨As2,cs2,ht⟩,hb2,C,hb1,hC⟩
     have hfw9:Fr m.c.T w w9:=(HFW.out.alloc (.cells #[.int .u8 0,.int .i64 0] 246)).then hf fun b hb hc=>by
      rcases hc with hc|hc|hc
      ·exact hc
      ·omega
      ·omega
     have kb0:=(HKW0.out.alloc (.cells #[.int .u8 0,.int .i64 0] 246)).fr hf hnB0
     have c0:=kb0.cell 0
     have c0l:=kb0.lt
     have c2:=hb2.cell 0
     have c2l:=hb2.lt
     have c1:=(hb1.cell 1).trans hC
     have c1l:=hb1.lt
     have u11:=ht.blk.cell 11
     have u12:=ht.blk.cell 12
     have uf11:=ht.blk.frozen 11
     have uf12:=ht.blk.frozen 12
     have ul:=ht.blk.lt
     simp only[mnC,rnC,List.getElem?_toArray,List.getElem?_cons_succ,List.getElem?_cons_zero]at c0 c2 u11 u12
     rw[←HRR.out]at u11 u12 uf11 uf12 ul
     obtain⟨wa,hwa⟩:=nmq (w9.alloc (.cells #[.int .u8 0,.int .i64 0] 246))
     have hfa:Fr NoT w9 wa:=by rw[hwa];exact(Fr.refl _ _).alloc _
     have hta:=ht.fr0 hfa
     have p1:=hta.put 11 (.int .i64 (zad m.c.g s e r)) (s':={t with node:=zad m.c.g s e r}) (k':=0) (wr':=0) (at':=0) (ed':=i) rfl rfl rfl rfl
     have p2:=p1.1.put 12 (.int .i64 0) (s':={t with node:=zad m.c.g s e r}) (k':=0) (wr':=0) (at':=0) (ed':=0) rfl rfl rfl rfl
     rw[←HRR.out]at p1 p2
     have c0a:=(hfa.cell (p:=⟨w.heap.size,0,none⟩) c0l id).trans c0
     have c1a:=(hfa.cell (p:=⟨w4.heap.size,1,none⟩) c1l id).trans c1
     have c2a:=(hfa.cell (p:=⟨w.heap.size+1,0,none⟩) c2l id).trans c2
     have u11a:=(hfa.cell (p:=⟨R,11,none⟩) ul id).trans u11
     have u12a:=(hfa.cell (p:=⟨R,12,none⟩) ul id).trans u12
     have uf11a:=(hfa.frozen (p:=⟨R,11,none⟩) ul id).trans uf11
     have uf12a:=(hfa.frozen (p:=⟨R,12,none⟩) ul id).trans uf12
     have c0la:=hfa.low c0l
     have c1la:=hfa.low c1l
     have c2la:=hfa.low c2l
     have ula:=hfa.low ul
     have HPP:=hdq (show zbL m s w (.returned (.pointer none)) ((wa.setCell ⟨R,11,none⟩ (.int .i64 (zad m.c.g s e r))).setCell ⟨R,12,none⟩ (.int .i64 0)).drew from zdd HST.out (((hfw9.trans hfa.any).trans (p1.2.trans p2.2)).drew) (p2.1.fr0 (Fr.refl _ _).drew))
     have hn1:¬w.heap.size=R:=by omega
     have hn2:¬R=w.heap.size:=by omega
     have hn3:¬w4.heap.size=R:=by omega
     have hn4:¬R=w4.heap.size:=by omega
     have hn5:¬w.heap.size+1=R:=by omega
     have hn6:¬R=w.heap.size+1:=by omega
     have HWA2:=hdq hwa
     clear hdo hf ht hb2 hb1 hC hfw9 kb0 hfa hta p1 p2 hwa
     go_wp2_with fail
     rw[←HWA2.out]
     go_region
     go_wp2_with fail
     refine bodyPost_ret (zal (p:=2) (ty:=168) rfl _ _ (w.heap.size+1) (.pointer none) _ Tryz.underlying168 rfl (by first|assumption|(go_simp;done)|simp[c2a])) rfl ?_
     exact HPP.out
   |inr z=>
    have HST:=hdq (show zaP m.c.g s= .inr z from by rw[zbH HIX.out HE.out HNC.out,hdo])
    by_cases hw:z.wrong=0
    ·refine(zc2 159 #[.pointer (some ⟨w.heap.size,0,none⟩),.pointer (some ⟨w4.heap.size,0,none⟩),.pointer (some ⟨w.heap.size+1,0,none⟩),.pointer (some ⟨w1.heap.size,0,none⟩)] (fun w'=>Fr (fun b=>m.c.T b∨b=w4.heap.size∨b=w.heap.size+1) (w6.alloc (.cells #[.int .u8 0,.int .i64 0] 246)) w'∧∃(k at_:Int) (P:Nat),z=(s.pay e).stop k 0 at_ i∧Bk w' P 171 #[.int .u8 k,.int .i64 at_]∧w6.heap.size≤P∧(∃As cs,MnR m w' (s.pay e) As cs 0 0 0 i)∧Bk w' (w.heap.size+1) 168 #[.pointer (some ⟨P,0,none⟩)]) w6 (enters_of Tryz.func159 (by kernel_rfl) rfl) (HNX.out.mono fun en w' hn=>?_)).mono ?_
     ·obtain⟨hf,hd⟩:=hn
      rw[hdo]at hd
      rcases hd with⟨f,hf0,_,hz,_⟩|⟨k,at_,P,rfl,hz,hP,hPl,hM,hb2⟩
      ·rw[hz]at hw;exact absurd hw hf0
      ·refine⟨rfl,⟨hf,k,at_,P,hz,hP,Nat.le_trans ((Fr.refl NoT w6).alloc (.cells #[.int .u8 0,.int .i64 0] 246)).size hPl,hM,hb2⟩,HBF.out.fr hf ?_⟩
       rintro(hb|hb|hb)
       ·have:=hTW _ hb;omega
       ·omega
       ·omega
     ·rintro _ w9 ⟨rfl,hf,k,at_,P,hz,hP,hPl,⟨As2,cs2,ht⟩,hb2⟩
      have hfw9:Fr m.c.T w w9:=(HFW.out.alloc (.cells #[.int .u8 0,.int .i64 0] 246)).then hf fun b hb hc=>by
       rcases hc with hc|hc|hc
       ·exact hc
       ·omega
       ·omega
      have c2:=hb2.cell 0
      have c2l:=hb2.lt
      simp only[List.getElem?_toArray,List.getElem?_cons_succ,List.getElem?_cons_zero]at c2
      obtain⟨wa,hwa⟩:=nmq (w9.alloc (.cells #[.int .u8 0,.int .i64 0] 246))
      have hfa:Fr NoT w9 wa:=by rw[hwa];exact(Fr.refl _ _).alloc _
      have c2a:=(hfa.cell (p:=⟨w.heap.size+1,0,none⟩) c2l id).trans c2
      have HPP:=hdq (show zbL m s w (.returned (.pointer (some ⟨P,0,none⟩))) wa from zaH (by rw[HST.out,hz]) (hfw9.trans hfa.any) (hP.fr0 hfa) (by omega) (ht.fr0 hfa))
      have HWA2:=hdq hwa
      have HC2:=hdq c2a
      clear hdo hf ht hb2 hP hz hfw9 hfa hwa hw hPl
      go_wp2_with fail
      rw[←HWA2.out]
      exact bodyPost_ret (zal (p:=2) (ty:=168) rfl _ _ (w.heap.size+1) _ _ Tryz.underlying168 rfl HC2.out) rfl HPP.out
    ·refine(zeX 159 #[.pointer (some ⟨w.heap.size,0,none⟩),.pointer (some ⟨w4.heap.size,0,none⟩),.pointer (some ⟨w.heap.size+1,0,none⟩),.pointer (some ⟨w1.heap.size,0,none⟩)] (z.wrong,z.at_) (fun w'=>Fr (fun b=>m.c.T b∨b=w4.heap.size∨b=w.heap.size+1) (w6.alloc (.cells #[.int .u8 0,.int .i64 0] 246)) w'∧z=(s.pay e).stop 5 z.wrong z.at_ i∧(∃As cs,MnR m w' (s.pay e) As cs 0 0 0 i)∧Bk w' (w.heap.size+1) 168 #[.pointer none]) w6 (enters_of Tryz.func159 (by kernel_rfl) rfl) (HNX.out.mono fun en w' hn=>?_)).mono ?_
     ·obtain⟨hf,hd⟩:=hn
      rw[hdo]at hd
      rcases hd with⟨f,hf0,rfl,hz,hM,hb2⟩|⟨k,at_,P,_,hz,_⟩
      ·refine⟨by rw[hz];rfl,⟨hf,by rw[hz];rfl,hM,hb2⟩,HBF.out.fr hf ?_⟩
       rintro(hb|hb|hb)
       ·have:=hTW _ hb;omega
       ·omega
       ·omega
      ·rw[hz]at hw;exact absurd rfl hw
     ·rintro _ w9 ⟨rfl,w8,⟨hf,hz,⟨As2,cs2,ht⟩,hb2⟩,hb89⟩
      obtain⟨zw,hzw⟩:=nmq z.wrong
      obtain⟨za,hza⟩:=nmq z.at_
      rw[←hzw,←hza]at hz
      rw[←hzw]at hw
      rw[←hzw,←hza]
      clear hzw hza
      have hfw8:Fr m.c.T w w8:=(HFW.out.alloc (.cells #[.int .u8 0,.int .i64 0] 246)).then hf fun b hb hc=>by
       rcases hc with hc|hc|hc
       ·exact hc
       ·omega
       ·omega
      have hf89:Fr (fun b=>w6.heap.size≤b) w8 w9:=Fr.of hb89 fun b _ hb=>hb
      have hfw9:Fr m.c.T w w9:=hfw8.then hf89 fun b hb hc=>by omega
      have ht9:MnR m w9 (s.pay e) As2 cs2 0 0 0 i:=HH.out.far ht (hf89.mono fun b _ hc=>by have hc:w6.heap.size≤b:=hc;show w.heap.size≤b;omega)
      have kb0:=((HKW0.out.alloc (.cells #[.int .u8 0,.int .i64 0] 246)).fr hf hnB0).fr hf89 (by show ¬w6.heap.size≤w.heap.size;omega)
      have hb29:=hb2.fr hf89 (by show ¬w6.heap.size≤w.heap.size+1;have:=HKW2.out.lt;omega)
      have c0:=kb0.cell 0
      have c0l:=kb0.lt
      have c2:=hb29.cell 0
      have c2f:=hb29.frozen 0
      have c2l:=hb29.lt
      have u9:=ht9.blk.cell 9
      have uf9:=ht9.blk.frozen 9
      have ul:=ht9.blk.lt
      simp only[mnC,rnC,List.getElem?_toArray,List.getElem?_cons_succ,List.getElem?_cons_zero]at c0 c2 u9
      rw[←HRR.out]at u9 uf9 ul
      have hzw1:(zw != 0)=true:=by simpa using hw
      have hzw2:(zw==0)=false:=by simpa using hw
      have p1:=ht9.put 9 (.int .u8 zw) (s':=s.pay e) (k':=0) (wr':=zw) (at':=0) (ed':=i) rfl rfl rfl rfl
      rw[←HRR.out]at p1
      have hn1:¬w.heap.size=R:=by omega
      have hn2:¬R=w.heap.size:=by omega
      have hn5:¬w.heap.size+1=R:=by omega
      have hn6:¬R=w.heap.size+1:=by omega
      have HP1:=hdq p1
      have HT9:=hdq ht9
      have HFW9:=hdq hfw9
      have HZ:=hdq hz
      have HKB2:=hdq hb29
      clear hdo hf ht hb2 hz hfw8 hf89 hfw9 kb0 hb29 ht9 p1 hb89
      obtain⟨wf,hwf⟩:=nmq ((((w9.setCell ⟨R,9,none⟩ (.int .u8 zw)).setCell ⟨w.heap.size+1,0,none⟩ (.pointer (some ⟨w9.heap.size+1,0,none⟩))).alloc (.cells #[.int .u8 zw,.int .i64 za] 246)).alloc (.cells #[.int .u8 5,.int .i64 za] 171))
      have hff:Fr (fun x=>w.heap.size≤x) (w9.setCell ⟨R,9,none⟩ (.int .u8 zw)) wf:=by rw[hwf];exact(((Fr.refl _ _).setCell (p:=⟨w.heap.size+1,0,none⟩) (.inl (by show w.heap.size≤w.heap.size+1;omega)) _).alloc _).alloc _
      have hP:Bk wf (w9.heap.size+1) 171 #[.int .u8 5,.int .i64 za]:=by rw[hwf];exact Bk.new_at _ _ _ (by simp)
      have HPP:=hdq (show zbL m s w (.returned (.pointer (some ⟨w9.heap.size+1,0,none⟩))) wf from zaH (by rw[HST.out,HZ.out]) ((HFW9.out.trans HP1.out.2).then hff fun b hb hc=>absurd hc (by show ¬w.heap.size≤b;omega)) hP (by have:=HFW9.out.size;omega) (HH.out.far HP1.out.1 hff))
      have hfR:Fr (fun b=>b=R) w9 (w9.setCell ⟨R,9,none⟩ (.int .u8 zw)):=Fr.own (Fr.refl _ _) _ _
      have hc:wf.cell? ⟨w.heap.size+1,0,none⟩=some (.pointer (some ⟨w9.heap.size+1,0,none⟩)):=by
       have:=((((HKB2.out.fr hfR hn5).set_ 0 (.pointer (some ⟨w9.heap.size+1,0,none⟩))).alloc (.cells #[.int .u8 zw,.int .i64 za] 246)).alloc (.cells #[.int .u8 5,.int .i64 za] 171)).cell 0
       rw[hwf];simpa using this
      have HWF:=hdq hwf
      have HC:=hdq hc
      clear hwf hff hP hfR hc
      go_wp2_with fail
      rw[←HWF.out]
      exact bodyPost_ret (zal (p:=2) (ty:=168) rfl _ _ (w.heap.size+1) _ _ Tryz.underlying168 rfl HC.out) rfl HPP.out
  by_cases k7:ek=7
  ·subst k7
   have HNC:=hdq (show ¬(zbp e.kind=true∧s.left=0)from by rw[←HEK.out];simp[zbp])
   have HRP:=hdq (show MnR m w6 (s.pay e) As cs 0 0 0 i from by rw[zeW (by rw[←HEK.out];rfl)];exact HR6.out)
   have HFW:=HF6
   have HKW0:=HB0
   have HKW1:=HB1
   have HKW2:=HB2
   have HKW3:=HB3
   have hnx:NxE m (w6.alloc (.cells #[.int .u8 0,.int .i64 0] 246)) e A5 c5 (i::r) (some ⟨bi,oi,none⟩) co w.heap.size w.heap.size w4.heap.size (w.heap.size+1) w1.heap.size:=by
    have hz1:=HZ1.out
    have hz4:=HZ4.out
    refine⟨by rw[←HRR.out];exact HKW0.out.alloc _,?_,HKW2.out.alloc _,?_,?_,HH.out.below,?_,Nat.le_refl _,by omega,by omega,by omega,by omega,by omega,by omega,by omega,by omega⟩
    ·have:=HKW1.out.alloc (.cells #[.int .u8 0,.int .i64 0] 246)
     unfold edC
     rw[←HEK.out]
     exact this
    ·have:=HKW3.out.alloc (.cells #[.int .u8 0,.int .i64 0] 246)
     rw[HILR.out]at this
     exact this
    ·exact zeZ HSLA.out (HFW.out.alloc (.cells #[.int .u8 0,.int .i64 0] 246)) hbiw hnT
    ·intro b' o' e'
     simp only[Option.some.injEq,Addr.mk.injEq]at e'
     rw[←e'.1];exact hnT
   have HNX:=hdq (zcb m (w6.alloc (.cells #[.int .u8 0,.int .i64 0] 246)) (s.pay e) As cs i r e A5 c5 (some ⟨bi,oi,none⟩) co w.heap.size w.heap.size w4.heap.size (w.heap.size+1) w1.heap.size HH.out rfl (HRP.out.fr0 ((Fr.refl _ _).alloc _)) HM.out HIX.out HE.out (HX5.out.keep (Same.of_fr (HFW.out.alloc (.cells #[.int .u8 0,.int .i64 0] 246)) HH.out.lt HH.out.low)) hnx)
   have HBF:=hdq (Bk.new w6 246 #[.int .u8 0,.int .i64 0])
   have hTW:∀b,m.c.T b→b < w.heap.size:=HH.out.below
   have hWl:=HKW1.out.lt
   have HLE:=hdq (show zad m.c.g (s.pay e) e r=zad m.c.g s e r from rfl)
   have HWA:=hdq (show w.heap.size < w6.heap.size from by have:=HKW0.out.lt;exact this)
   have hz1':w.heap.size+1 < w1.heap.size:=by have:=HZ1.out;omega
   have hz4':w1.heap.size < w4.heap.size:=by have:=HZ4.out;omega
   have hnB0:¬(m.c.T w.heap.size∨w.heap.size=w4.heap.size∨w.heap.size=w.heap.size+1):=by
    rintro(hb|hb|hb)
    ·have:=hTW _ hb;omega
    ·omega
    ·omega
   clear hnx
   go_wp2_with fail
   go_at_call 158
   cases hdo:doE (s.pay e) e i with
   |inl t=>
    have HST:=hdq (show zaP m.c.g s= .inl {t with node:=zad m.c.g s e r}from by rw[zbH HIX.out HE.out HNC.out,hdo])
    refine(zc2 159 #[.pointer (some ⟨w.heap.size,0,none⟩),.pointer (some ⟨w4.heap.size,0,none⟩),.pointer (some ⟨w.heap.size+1,0,none⟩),.pointer (some ⟨w1.heap.size,0,none⟩)] (fun w'=>Fr (fun b=>m.c.T b∨b=w4.heap.size∨b=w.heap.size+1) (w6.alloc (.cells #[.int .u8 0,.int .i64 0] 246)) w'∧(∃As cs,MnR m w' t As cs 0 0 0 i)∧Bk w' (w.heap.size+1) 168 #[.pointer none]∧∃C:Array Value,Bk w' w4.heap.size 47 C∧C[1]?=some (.int .i64 (zad m.c.g s e r))) w6 (enters_of Tryz.func159 (by kernel_rfl) rfl) (HNX.out.mono fun en w' hn=>?_)).mono ?_
    ·obtain⟨hf,hd⟩:=hn
     rw[hdo]at hd
     obtain⟨rfl,⟨As2,cs2,ht⟩,hb2,C,hb1,hC⟩:=hd
     refine⟨rfl,⟨hf,⟨As2,cs2,ht⟩,hb2,C,hb1,hC⟩,HBF.out.fr hf ?_⟩
     rintro(hb|hb|hb)
     ·have:=hTW _ hb;omega
     ·omega
     ·omega
    ·rintro _ w9 ⟨rfl,hf,⟨As2,cs2,ht⟩,hb2,C,hb1,hC⟩
     have hfw9:Fr m.c.T w w9:=(HFW.out.alloc (.cells #[.int .u8 0,.int .i64 0] 246)).then hf fun b hb hc=>by
      rcases hc with hc|hc|hc
      ·exact hc
      ·omega
      ·omega
     have kb0:=(HKW0.out.alloc (.cells #[.int .u8 0,.int .i64 0] 246)).fr hf hnB0
     have c0:=kb0.cell 0
     have c0l:=kb0.lt
     have c2:=hb2.cell 0
     have c2l:=hb2.lt
     have c1:=(hb1.cell 1).trans hC
     have c1l:=hb1.lt
     have u11:=ht.blk.cell 11
     have u12:=ht.blk.cell 12
     have uf11:=ht.blk.frozen 11
     have uf12:=ht.blk.frozen 12
     have ul:=ht.blk.lt
     simp only[mnC,rnC,List.getElem?_toArray,List.getElem?_cons_succ,List.getElem?_cons_zero]at c0 c2 u11 u12
     rw[←HRR.out]at u11 u12 uf11 uf12 ul
     obtain⟨wa,hwa⟩:=nmq (w9.alloc (.cells #[.int .u8 0,.int .i64 0] 246))
     have hfa:Fr NoT w9 wa:=by rw[hwa];exact(Fr.refl _ _).alloc _
     have hta:=ht.fr0 hfa
     have p1:=hta.put 11 (.int .i64 (zad m.c.g s e r)) (s':={t with node:=zad m.c.g s e r}) (k':=0) (wr':=0) (at':=0) (ed':=i) rfl rfl rfl rfl
     have p2:=p1.1.put 12 (.int .i64 0) (s':={t with node:=zad m.c.g s e r}) (k':=0) (wr':=0) (at':=0) (ed':=0) rfl rfl rfl rfl
     rw[←HRR.out]at p1 p2
     have c0a:=(hfa.cell (p:=⟨w.heap.size,0,none⟩) c0l id).trans c0
     have c1a:=(hfa.cell (p:=⟨w4.heap.size,1,none⟩) c1l id).trans c1
     have c2a:=(hfa.cell (p:=⟨w.heap.size+1,0,none⟩) c2l id).trans c2
     have u11a:=(hfa.cell (p:=⟨R,11,none⟩) ul id).trans u11
     have u12a:=(hfa.cell (p:=⟨R,12,none⟩) ul id).trans u12
     have uf11a:=(hfa.frozen (p:=⟨R,11,none⟩) ul id).trans uf11
     have uf12a:=(hfa.frozen (p:=⟨R,12,none⟩) ul id).trans uf12
     have c0la:=hfa.low c0l
     have c1la:=hfa.low c1l
     have c2la:=hfa.low c2l
     have ula:=hfa.low ul
     have HPP:=hdq (show zbL m s w (.returned (.pointer none)) ((wa.setCell ⟨R,11,none⟩ (.int .i64 (zad m.c.g s e r))).setCell ⟨R,12,none⟩ (.int .i64 0)).drew from zdd HST.out (((hfw9.trans hfa.any).trans (p1.2.trans p2.2)).drew) (p2.1.fr0 (Fr.refl _ _).drew))
     have hn1:¬w.heap.size=R:=by omega
     have hn2:¬R=w.heap.size:=by omega
     have hn3:¬w4.heap.size=R:=by omega
     have hn4:¬R=w4.heap.size:=by omega
     have hn5:¬w.heap.size+1=R:=by omega
     have hn6:¬R=w.heap.size+1:=by omega
     have HWA2:=hdq hwa
     clear hdo hf ht hb2 hb1 hC hfw9 kb0 hfa hta p1 p2 hwa
     go_wp2_with fail
     rw[←HWA2.out]
     go_region
     go_wp2_with fail
     refine bodyPost_ret (zal (p:=2) (ty:=168) rfl _ _ (w.heap.size+1) (.pointer none) _ Tryz.underlying168 rfl (by first|assumption|(go_simp;done)|simp[c2a])) rfl ?_
     exact HPP.out
   |inr z=>
    have HST:=hdq (show zaP m.c.g s= .inr z from by rw[zbH HIX.out HE.out HNC.out,hdo])
    by_cases hw:z.wrong=0
    ·refine(zc2 159 #[.pointer (some ⟨w.heap.size,0,none⟩),.pointer (some ⟨w4.heap.size,0,none⟩),.pointer (some ⟨w.heap.size+1,0,none⟩),.pointer (some ⟨w1.heap.size,0,none⟩)] (fun w'=>Fr (fun b=>m.c.T b∨b=w4.heap.size∨b=w.heap.size+1) (w6.alloc (.cells #[.int .u8 0,.int .i64 0] 246)) w'∧∃(k at_:Int) (P:Nat),z=(s.pay e).stop k 0 at_ i∧Bk w' P 171 #[.int .u8 k,.int .i64 at_]∧w6.heap.size≤P∧(∃As cs,MnR m w' (s.pay e) As cs 0 0 0 i)∧Bk w' (w.heap.size+1) 168 #[.pointer (some ⟨P,0,none⟩)]) w6 (enters_of Tryz.func159 (by kernel_rfl) rfl) (HNX.out.mono fun en w' hn=>?_)).mono ?_
     ·obtain⟨hf,hd⟩:=hn
      rw[hdo]at hd
      rcases hd with⟨f,hf0,_,hz,_⟩|⟨k,at_,P,rfl,hz,hP,hPl,hM,hb2⟩
      ·rw[hz]at hw;exact absurd hw hf0
      ·refine⟨rfl,⟨hf,k,at_,P,hz,hP,Nat.le_trans ((Fr.refl NoT w6).alloc (.cells #[.int .u8 0,.int .i64 0] 246)).size hPl,hM,hb2⟩,HBF.out.fr hf ?_⟩
       rintro(hb|hb|hb)
       ·have:=hTW _ hb;omega
       ·omega
       ·omega
     ·rintro _ w9 ⟨rfl,hf,k,at_,P,hz,hP,hPl,⟨As2,cs2,ht⟩,hb2⟩
      have hfw9:Fr m.c.T w w9:=(HFW.out.alloc (.cells #[.int .u8 0,.int .i64 0] 246)).then hf fun b hb hc=>by
       rcases hc with hc|hc|hc
       ·exact hc
       ·omega
       ·omega
      have c2:=hb2.cell 0
      have c2l:=hb2.lt
      simp only[List.getElem?_toArray,List.getElem?_cons_succ,List.getElem?_cons_zero]at c2
      obtain⟨wa,hwa⟩:=nmq (w9.alloc (.cells #[.int .u8 0,.int .i64 0] 246))
      have hfa:Fr NoT w9 wa:=by rw[hwa];exact(Fr.refl _ _).alloc _
      have c2a:=(hfa.cell (p:=⟨w.heap.size+1,0,none⟩) c2l id).trans c2
      have HPP:=hdq (show zbL m s w (.returned (.pointer (some ⟨P,0,none⟩))) wa from zaH (by rw[HST.out,hz]) (hfw9.trans hfa.any) (hP.fr0 hfa) (by omega) (ht.fr0 hfa))
      have HWA2:=hdq hwa
      have HC2:=hdq c2a
      clear hdo hf ht hb2 hP hz hfw9 hfa hwa hw hPl
      go_wp2_with fail
      rw[←HWA2.out]
      exact bodyPost_ret (zal (p:=2) (ty:=168) rfl _ _ (w.heap.size+1) _ _ Tryz.underlying168 rfl HC2.out) rfl HPP.out
    ·refine(zeX 159 #[.pointer (some ⟨w.heap.size,0,none⟩),.pointer (some ⟨w4.heap.size,0,none⟩),.pointer (some ⟨w.heap.size+1,0,none⟩),.pointer (some ⟨w1.heap.size,0,none⟩)] (z.wrong,z.at_) (fun w'=>Fr (fun b=>m.c.T b∨b=w4.heap.size∨b=w.heap.size+1) (w6.alloc (.cells #[.int .u8 0,.int .i64 0] 246)) w'∧z=(s.pay e).stop 5 z.wrong z.at_ i∧(∃As cs,MnR m w' (s.pay e) As cs 0 0 0 i)∧Bk w' (w.heap.size+1) 168 #[.pointer none]) w6 (enters_of Tryz.func159 (by kernel_rfl) rfl) (HNX.out.mono fun en w' hn=>?_)).mono ?_
     ·obtain⟨hf,hd⟩:=hn
      rw[hdo]at hd
      rcases hd with⟨f,hf0,rfl,hz,hM,hb2⟩|⟨k,at_,P,_,hz,_⟩
      ·refine⟨by rw[hz];rfl,⟨hf,by rw[hz];rfl,hM,hb2⟩,HBF.out.fr hf ?_⟩
       rintro(hb|hb|hb)
       ·have:=hTW _ hb;omega
       ·omega
       ·omega
      ·rw[hz]at hw;exact absurd rfl hw
     ·rintro _ w9 ⟨rfl,w8,⟨hf,hz,⟨As2,cs2,ht⟩,hb2⟩,hb89⟩
      obtain⟨zw,hzw⟩:=nmq z.wrong
      obtain⟨za,hza⟩:=nmq z.at_
      rw[←hzw,←hza]at hz
      rw[←hzw]at hw
      rw[←hzw,←hza]
      clear hzw hza
      have hfw8:Fr m.c.T w w8:=(HFW.out.alloc (.cells #[.int .u8 0,.int .i64 0] 246)).then hf fun b hb hc=>by
       rcases hc with hc|hc|hc
       ·exact hc
       ·omega
       ·omega
      have hf89:Fr (fun b=>w6.heap.size≤b) w8 w9:=Fr.of hb89 fun b _ hb=>hb
      have hfw9:Fr m.c.T w w9:=hfw8.then hf89 fun b hb hc=>by omega
      have ht9:MnR m w9 (s.pay e) As2 cs2 0 0 0 i:=HH.out.far ht (hf89.mono fun b _ hc=>by have hc:w6.heap.size≤b:=hc;show w.heap.size≤b;omega)
      have kb0:=((HKW0.out.alloc (.cells #[.int .u8 0,.int .i64 0] 246)).fr hf hnB0).fr hf89 (by show ¬w6.heap.size≤w.heap.size;omega)
      have hb29:=hb2.fr hf89 (by show ¬w6.heap.size≤w.heap.size+1;have:=HKW2.out.lt;omega)
      have c0:=kb0.cell 0
      have c0l:=kb0.lt
      have c2:=hb29.cell 0
      have c2f:=hb29.frozen 0
      have c2l:=hb29.lt
      have u9:=ht9.blk.cell 9
      have uf9:=ht9.blk.frozen 9
      have ul:=ht9.blk.lt
      simp only[mnC,rnC,List.getElem?_toArray,List.getElem?_cons_succ,List.getElem?_cons_zero]at c0 c2 u9
      rw[←HRR.out]at u9 uf9 ul
      have hzw1:(zw != 0)=true:=by simpa using hw
      have hzw2:(zw==0)=false:=by simpa using hw
      have p1:=ht9.put 9 (.int .u8 zw) (s':=s.pay e) (k':=0) (wr':=zw) (at':=0) (ed':=i) rfl rfl rfl rfl
      rw[←HRR.out]at p1
      have hn1:¬w.heap.size=R:=by omega
      have hn2:¬R=w.heap.size:=by omega
      have hn5:¬w.heap.size+1=R:=by omega
      have hn6:¬R=w.heap.size+1:=by omega
      have HP1:=hdq p1
      have HT9:=hdq ht9
      have HFW9:=hdq hfw9
      have HZ:=hdq hz
      have HKB2:=hdq hb29
      clear hdo hf ht hb2 hz hfw8 hf89 hfw9 kb0 hb29 ht9 p1 hb89
      obtain⟨wf,hwf⟩:=nmq ((((w9.setCell ⟨R,9,none⟩ (.int .u8 zw)).setCell ⟨w.heap.size+1,0,none⟩ (.pointer (some ⟨w9.heap.size+1,0,none⟩))).alloc (.cells #[.int .u8 zw,.int .i64 za] 246)).alloc (.cells #[.int .u8 5,.int .i64 za] 171))
      have hff:Fr (fun x=>w.heap.size≤x) (w9.setCell ⟨R,9,none⟩ (.int .u8 zw)) wf:=by rw[hwf];exact(((Fr.refl _ _).setCell (p:=⟨w.heap.size+1,0,none⟩) (.inl (by show w.heap.size≤w.heap.size+1;omega)) _).alloc _).alloc _
      have hP:Bk wf (w9.heap.size+1) 171 #[.int .u8 5,.int .i64 za]:=by rw[hwf];exact Bk.new_at _ _ _ (by simp)
      have HPP:=hdq (show zbL m s w (.returned (.pointer (some ⟨w9.heap.size+1,0,none⟩))) wf from zaH (by rw[HST.out,HZ.out]) ((HFW9.out.trans HP1.out.2).then hff fun b hb hc=>absurd hc (by show ¬w.heap.size≤b;omega)) hP (by have:=HFW9.out.size;omega) (HH.out.far HP1.out.1 hff))
      have hfR:Fr (fun b=>b=R) w9 (w9.setCell ⟨R,9,none⟩ (.int .u8 zw)):=Fr.own (Fr.refl _ _) _ _
      have hc:wf.cell? ⟨w.heap.size+1,0,none⟩=some (.pointer (some ⟨w9.heap.size+1,0,none⟩)):=by
       have:=((((HKB2.out.fr hfR hn5).set_ 0 (.pointer (some ⟨w9.heap.size+1,0,none⟩))).alloc (.cells #[.int .u8 zw,.int .i64 za] 246)).alloc (.cells #[.int .u8 5,.int .i64 za] 171)).cell 0
       rw[hwf];simpa using this
      have HWF:=hdq hwf
      have HC:=hdq hc
      clear hwf hff hP hfR hc
      go_wp2_with fail
      rw[←HWF.out]
      exact bodyPost_ret (zal (p:=2) (ty:=168) rfl _ _ (w.heap.size+1) _ _ Tryz.underlying168 rfl HC.out) rfl HPP.out
  by_cases k8:ek=8
  ·subst k8
   have HNC:=hdq (show ¬(zbp e.kind=true∧s.left=0)from by rw[←HEK.out];simp[zbp])
   have HRP:=hdq (show MnR m w6 (s.pay e) As cs 0 0 0 i from by rw[zeW (by rw[←HEK.out];rfl)];exact HR6.out)
   have HFW:=HF6
   have HKW0:=HB0
   have HKW1:=HB1
   have HKW2:=HB2
   have HKW3:=HB3
   have hnx:NxE m (w6.alloc (.cells #[.int .u8 0,.int .i64 0] 246)) e A5 c5 (i::r) (some ⟨bi,oi,none⟩) co w.heap.size w.heap.size w4.heap.size (w.heap.size+1) w1.heap.size:=by
    have hz1:=HZ1.out
    have hz4:=HZ4.out
    refine⟨by rw[←HRR.out];exact HKW0.out.alloc _,?_,HKW2.out.alloc _,?_,?_,HH.out.below,?_,Nat.le_refl _,by omega,by omega,by omega,by omega,by omega,by omega,by omega,by omega⟩
    ·have:=HKW1.out.alloc (.cells #[.int .u8 0,.int .i64 0] 246)
     unfold edC
     rw[←HEK.out]
     exact this
    ·have:=HKW3.out.alloc (.cells #[.int .u8 0,.int .i64 0] 246)
     rw[HILR.out]at this
     exact this
    ·exact zeZ HSLA.out (HFW.out.alloc (.cells #[.int .u8 0,.int .i64 0] 246)) hbiw hnT
    ·intro b' o' e'
     simp only[Option.some.injEq,Addr.mk.injEq]at e'
     rw[←e'.1];exact hnT
   have HNX:=hdq (zcb m (w6.alloc (.cells #[.int .u8 0,.int .i64 0] 246)) (s.pay e) As cs i r e A5 c5 (some ⟨bi,oi,none⟩) co w.heap.size w.heap.size w4.heap.size (w.heap.size+1) w1.heap.size HH.out rfl (HRP.out.fr0 ((Fr.refl _ _).alloc _)) HM.out HIX.out HE.out (HX5.out.keep (Same.of_fr (HFW.out.alloc (.cells #[.int .u8 0,.int .i64 0] 246)) HH.out.lt HH.out.low)) hnx)
   have HBF:=hdq (Bk.new w6 246 #[.int .u8 0,.int .i64 0])
   have hTW:∀b,m.c.T b→b < w.heap.size:=HH.out.below
   have hWl:=HKW1.out.lt
   have HLE:=hdq (show zad m.c.g (s.pay e) e r=zad m.c.g s e r from rfl)
   have HWA:=hdq (show w.heap.size < w6.heap.size from by have:=HKW0.out.lt;exact this)
   have hz1':w.heap.size+1 < w1.heap.size:=by have:=HZ1.out;omega
   have hz4':w1.heap.size < w4.heap.size:=by have:=HZ4.out;omega
   have hnB0:¬(m.c.T w.heap.size∨w.heap.size=w4.heap.size∨w.heap.size=w.heap.size+1):=by
    rintro(hb|hb|hb)
    ·have:=hTW _ hb;omega
    ·omega
    ·omega
   clear hnx
   go_wp2_with fail
   go_at_call 158
   cases hdo:doE (s.pay e) e i with
   |inl t=>
    have HST:=hdq (show zaP m.c.g s= .inl {t with node:=zad m.c.g s e r}from by rw[zbH HIX.out HE.out HNC.out,hdo])
    refine(zc2 159 #[.pointer (some ⟨w.heap.size,0,none⟩),.pointer (some ⟨w4.heap.size,0,none⟩),.pointer (some ⟨w.heap.size+1,0,none⟩),.pointer (some ⟨w1.heap.size,0,none⟩)] (fun w'=>Fr (fun b=>m.c.T b∨b=w4.heap.size∨b=w.heap.size+1) (w6.alloc (.cells #[.int .u8 0,.int .i64 0] 246)) w'∧(∃As cs,MnR m w' t As cs 0 0 0 i)∧Bk w' (w.heap.size+1) 168 #[.pointer none]∧∃C:Array Value,Bk w' w4.heap.size 47 C∧C[1]?=some (.int .i64 (zad m.c.g s e r))) w6 (enters_of Tryz.func159 (by kernel_rfl) rfl) (HNX.out.mono fun en w' hn=>?_)).mono ?_
    ·obtain⟨hf,hd⟩:=hn
     rw[hdo]at hd
     obtain⟨rfl,⟨As2,cs2,ht⟩,hb2,C,hb1,hC⟩:=hd
     refine⟨rfl,⟨hf,⟨As2,cs2,ht⟩,hb2,C,hb1,hC⟩,HBF.out.fr hf ?_⟩
     rintro(hb|hb|hb)
     ·have:=hTW _ hb;omega
     ·omega
     ·omega
    ·rintro _ w9 ⟨rfl,hf,⟨As2,cs2,ht⟩,hb2,C,hb1,hC⟩
     have hfw9:Fr m.c.T w w9:=(HFW.out.alloc (.cells #[.int .u8 0,.int .i64 0] 246)).then hf fun b hb hc=>by
      rcases hc with hc|hc|hc
      ·exact hc
      ·omega
      ·omega
     have kb0:=(HKW0.out.alloc (.cells #[.int .u8 0,.int .i64 0] 246)).fr hf hnB0
     have c0:=kb0.cell 0
     have c0l:=kb0.lt
     have c2:=hb2.cell 0
     have c2l:=hb2.lt
     have c1:=(hb1.cell 1).trans hC
     have c1l:=hb1.lt
     have u11:=ht.blk.cell 11
     have u12:=ht.blk.cell 12
     have uf11:=ht.blk.frozen 11
     have uf12:=ht.blk.frozen 12
     have ul:=ht.blk.lt
     simp only[mnC,rnC,List.getElem?_toArray,List.getElem?_cons_succ,List.getElem?_cons_zero]at c0 c2 u11 u12
     rw[←HRR.out]at u11 u12 uf11 uf12 ul
     obtain⟨wa,hwa⟩:=nmq (w9.alloc (.cells #[.int .u8 0,.int .i64 0] 246))
     have hfa:Fr NoT w9 wa:=by rw[hwa];exact(Fr.refl _ _).alloc _
     have hta:=ht.fr0 hfa
     have p1:=hta.put 11 (.int .i64 (zad m.c.g s e r)) (s':={t with node:=zad m.c.g s e r}) (k':=0) (wr':=0) (at':=0) (ed':=i) rfl rfl rfl rfl
     have p2:=p1.1.put 12 (.int .i64 0) (s':={t with node:=zad m.c.g s e r}) (k':=0) (wr':=0) (at':=0) (ed':=0) rfl rfl rfl rfl
     rw[←HRR.out]at p1 p2
     have c0a:=(hfa.cell (p:=⟨w.heap.size,0,none⟩) c0l id).trans c0
     have c1a:=(hfa.cell (p:=⟨w4.heap.size,1,none⟩) c1l id).trans c1
     have c2a:=(hfa.cell (p:=⟨w.heap.size+1,0,none⟩) c2l id).trans c2
     have u11a:=(hfa.cell (p:=⟨R,11,none⟩) ul id).trans u11
     have u12a:=(hfa.cell (p:=⟨R,12,none⟩) ul id).trans u12
     have uf11a:=(hfa.frozen (p:=⟨R,11,none⟩) ul id).trans uf11
     have uf12a:=(hfa.frozen (p:=⟨R,12,none⟩) ul id).trans uf12
     have c0la:=hfa.low c0l
     have c1la:=hfa.low c1l
     have c2la:=hfa.low c2l
     have ula:=hfa.low ul
     have HPP:=hdq (show zbL m s w (.returned (.pointer none)) ((wa.setCell ⟨R,11,none⟩ (.int .i64 (zad m.c.g s e r))).setCell ⟨R,12,none⟩ (.int .i64 0)).drew from zdd HST.out (((hfw9.trans hfa.any).trans (p1.2.trans p2.2)).drew) (p2.1.fr0 (Fr.refl _ _).drew))
     have hn1:¬w.heap.size=R:=by omega
     have hn2:¬R=w.heap.size:=by omega
     have hn3:¬w4.heap.size=R:=by omega
     have hn4:¬R=w4.heap.size:=by omega
     have hn5:¬w.heap.size+1=R:=by omega
     have hn6:¬R=w.heap.size+1:=by omega
     have HWA2:=hdq hwa
     clear hdo hf ht hb2 hb1 hC hfw9 kb0 hfa hta p1 p2 hwa
     go_wp2_with fail
     rw[←HWA2.out]
     go_region
     go_wp2_with fail
     refine bodyPost_ret (zal (p:=2) (ty:=168) rfl _ _ (w.heap.size+1) (.pointer none) _ Tryz.underlying168 rfl (by first|assumption|(go_simp;done)|simp[c2a])) rfl ?_
     exact HPP.out
   |inr z=>
    have HST:=hdq (show zaP m.c.g s= .inr z from by rw[zbH HIX.out HE.out HNC.out,hdo])
    by_cases hw:z.wrong=0
    ·refine(zc2 159 #[.pointer (some ⟨w.heap.size,0,none⟩),.pointer (some ⟨w4.heap.size,0,none⟩),.pointer (some ⟨w.heap.size+1,0,none⟩),.pointer (some ⟨w1.heap.size,0,none⟩)] (fun w'=>Fr (fun b=>m.c.T b∨b=w4.heap.size∨b=w.heap.size+1) (w6.alloc (.cells #[.int .u8 0,.int .i64 0] 246)) w'∧∃(k at_:Int) (P:Nat),z=(s.pay e).stop k 0 at_ i∧Bk w' P 171 #[.int .u8 k,.int .i64 at_]∧w6.heap.size≤P∧(∃As cs,MnR m w' (s.pay e) As cs 0 0 0 i)∧Bk w' (w.heap.size+1) 168 #[.pointer (some ⟨P,0,none⟩)]) w6 (enters_of Tryz.func159 (by kernel_rfl) rfl) (HNX.out.mono fun en w' hn=>?_)).mono ?_
     ·obtain⟨hf,hd⟩:=hn
      rw[hdo]at hd
      rcases hd with⟨f,hf0,_,hz,_⟩|⟨k,at_,P,rfl,hz,hP,hPl,hM,hb2⟩
      ·rw[hz]at hw;exact absurd hw hf0
      ·refine⟨rfl,⟨hf,k,at_,P,hz,hP,Nat.le_trans ((Fr.refl NoT w6).alloc (.cells #[.int .u8 0,.int .i64 0] 246)).size hPl,hM,hb2⟩,HBF.out.fr hf ?_⟩
       rintro(hb|hb|hb)
       ·have:=hTW _ hb;omega
       ·omega
       ·omega
     ·rintro _ w9 ⟨rfl,hf,k,at_,P,hz,hP,hPl,⟨As2,cs2,ht⟩,hb2⟩
      have hfw9:Fr m.c.T w w9:=(HFW.out.alloc (.cells #[.int .u8 0,.int .i64 0] 246)).then hf fun b hb hc=>by
       rcases hc with hc|hc|hc
       ·exact hc
       ·omega
       ·omega
      have c2:=hb2.cell 0
      have c2l:=hb2.lt
      simp only[List.getElem?_toArray,List.getElem?_cons_succ,List.getElem?_cons_zero]at c2
      obtain⟨wa,hwa⟩:=nmq (w9.alloc (.cells #[.int .u8 0,.int .i64 0] 246))
      have hfa:Fr NoT w9 wa:=by rw[hwa];exact(Fr.refl _ _).alloc _
      have c2a:=(hfa.cell (p:=⟨w.heap.size+1,0,none⟩) c2l id).trans c2
      have HPP:=hdq (show zbL m s w (.returned (.pointer (some ⟨P,0,none⟩))) wa from zaH (by rw[HST.out,hz]) (hfw9.trans hfa.any) (hP.fr0 hfa) (by omega) (ht.fr0 hfa))
      have HWA2:=hdq hwa
      have HC2:=hdq c2a
      clear hdo hf ht hb2 hP hz hfw9 hfa hwa hw hPl
      go_wp2_with fail
      rw[←HWA2.out]
      exact bodyPost_ret (zal (p:=2) (ty:=168) rfl _ _ (w.heap.size+1) _ _ Tryz.underlying168 rfl HC2.out) rfl HPP.out
    ·refine(zeX 159 #[.pointer (some ⟨w.heap.size,0,none⟩),.pointer (some ⟨w4.heap.size,0,none⟩),.pointer (some ⟨w.heap.size+1,0,none⟩),.pointer (some ⟨w1.heap.size,0,none⟩)] (z.wrong,z.at_) (fun w'=>Fr (fun b=>m.c.T b∨b=w4.heap.size∨b=w.heap.size+1) (w6.alloc (.cells #[.int .u8 0,.int .i64 0] 246)) w'∧z=(s.pay e).stop 5 z.wrong z.at_ i∧(∃As cs,MnR m w' (s.pay e) As cs 0 0 0 i)∧Bk w' (w.heap.size+1) 168 #[.pointer none]) w6 (enters_of Tryz.func159 (by kernel_rfl) rfl) (HNX.out.mono fun en w' hn=>?_)).mono ?_
     ·obtain⟨hf,hd⟩:=hn
      rw[hdo]at hd
      rcases hd with⟨f,hf0,rfl,hz,hM,hb2⟩|⟨k,at_,P,_,hz,_⟩
      ·refine⟨by rw[hz];rfl,⟨hf,by rw[hz];rfl,hM,hb2⟩,HBF.out.fr hf ?_⟩
       rintro(hb|hb|hb)
       ·have:=hTW _ hb;omega
       ·omega
       ·omega
      ·rw[hz]at hw;exact absurd rfl hw
     ·rintro _ w9 ⟨rfl,w8,⟨hf,hz,⟨As2,cs2,ht⟩,hb2⟩,hb89⟩
      obtain⟨zw,hzw⟩:=nmq z.wrong
      obtain⟨za,hza⟩:=nmq z.at_
      rw[←hzw,←hza]at hz
      rw[←hzw]at hw
      rw[←hzw,←hza]
      clear hzw hza
      have hfw8:Fr m.c.T w w8:=(HFW.out.alloc (.cells #[.int .u8 0,.int .i64 0] 246)).then hf fun b hb hc=>by
       rcases hc with hc|hc|hc
       ·exact hc
       ·omega
       ·omega
      have hf89:Fr (fun b=>w6.heap.size≤b) w8 w9:=Fr.of hb89 fun b _ hb=>hb
      have hfw9:Fr m.c.T w w9:=hfw8.then hf89 fun b hb hc=>by omega
      have ht9:MnR m w9 (s.pay e) As2 cs2 0 0 0 i:=HH.out.far ht (hf89.mono fun b _ hc=>by have hc:w6.heap.size≤b:=hc;show w.heap.size≤b;omega)
      have kb0:=((HKW0.out.alloc (.cells #[.int .u8 0,.int .i64 0] 246)).fr hf hnB0).fr hf89 (by show ¬w6.heap.size≤w.heap.size;omega)
      have hb29:=hb2.fr hf89 (by show ¬w6.heap.size≤w.heap.size+1;have:=HKW2.out.lt;omega)
      have c0:=kb0.cell 0
      have c0l:=kb0.lt
      have c2:=hb29.cell 0
      have c2f:=hb29.frozen 0
      have c2l:=hb29.lt
      have u9:=ht9.blk.cell 9
      have uf9:=ht9.blk.frozen 9
      have ul:=ht9.blk.lt
      simp only[mnC,rnC,List.getElem?_toArray,List.getElem?_cons_succ,List.getElem?_cons_zero]at c0 c2 u9
      rw[←HRR.out]at u9 uf9 ul
      have hzw1:(zw != 0)=true:=by simpa using hw
      have hzw2:(zw==0)=false:=by simpa using hw
      have p1:=ht9.put 9 (.int .u8 zw) (s':=s.pay e) (k':=0) (wr':=zw) (at':=0) (ed':=i) rfl rfl rfl rfl
      rw[←HRR.out]at p1
      have hn1:¬w.heap.size=R:=by omega
      have hn2:¬R=w.heap.size:=by omega
      have hn5:¬w.heap.size+1=R:=by omega
      have hn6:¬R=w.heap.size+1:=by omega
      have HP1:=hdq p1
      have HT9:=hdq ht9
      have HFW9:=hdq hfw9
      have HZ:=hdq hz
      have HKB2:=hdq hb29
      clear hdo hf ht hb2 hz hfw8 hf89 hfw9 kb0 hb29 ht9 p1 hb89
      obtain⟨wf,hwf⟩:=nmq ((((w9.setCell ⟨R,9,none⟩ (.int .u8 zw)).setCell ⟨w.heap.size+1,0,none⟩ (.pointer (some ⟨w9.heap.size+1,0,none⟩))).alloc (.cells #[.int .u8 zw,.int .i64 za] 246)).alloc (.cells #[.int .u8 5,.int .i64 za] 171))
      have hff:Fr (fun x=>w.heap.size≤x) (w9.setCell ⟨R,9,none⟩ (.int .u8 zw)) wf:=by rw[hwf];exact(((Fr.refl _ _).setCell (p:=⟨w.heap.size+1,0,none⟩) (.inl (by show w.heap.size≤w.heap.size+1;omega)) _).alloc _).alloc _
      have hP:Bk wf (w9.heap.size+1) 171 #[.int .u8 5,.int .i64 za]:=by rw[hwf];exact Bk.new_at _ _ _ (by simp)
      have HPP:=hdq (show zbL m s w (.returned (.pointer (some ⟨w9.heap.size+1,0,none⟩))) wf from zaH (by rw[HST.out,HZ.out]) ((HFW9.out.trans HP1.out.2).then hff fun b hb hc=>absurd hc (by show ¬w.heap.size≤b;omega)) hP (by have:=HFW9.out.size;omega) (HH.out.far HP1.out.1 hff))
      have hfR:Fr (fun b=>b=R) w9 (w9.setCell ⟨R,9,none⟩ (.int .u8 zw)):=Fr.own (Fr.refl _ _) _ _
      have hc:wf.cell? ⟨w.heap.size+1,0,none⟩=some (.pointer (some ⟨w9.heap.size+1,0,none⟩)):=by
       have:=((((HKB2.out.fr hfR hn5).set_ 0 (.pointer (some ⟨w9.heap.size+1,0,none⟩))).alloc (.cells #[.int .u8 zw,.int .i64 za] 246)).alloc (.cells #[.int .u8 5,.int .i64 za] 171)).cell 0
       rw[hwf];simpa using this
      have HWF:=hdq hwf
      have HC:=hdq hc
      clear hwf hff hP hfR hc
      go_wp2_with fail
      rw[←HWF.out]
      exact bodyPost_ret (zal (p:=2) (ty:=168) rfl _ _ (w.heap.size+1) _ _ Tryz.underlying168 rfl HC.out) rfl HPP.out
  have a1:(ek==1)=false:=by simpa using k1
  have a7:(ek==7)=false:=by simpa using k7
  have a8:(ek==8)=false:=by simpa using k8
  have HCO:=hdq (show zbp e.kind=true from by rw[←HEK.out];simp[zbp,k1,k7,k8])
  by_cases hl0:lf=0
  ·subst hl0
   obtain⟨wf,hwf⟩:=nmq ((w6.setCell ⟨w.heap.size+1,0,none⟩ (.pointer (some ⟨w6.heap.size,0,none⟩))).alloc (.cells #[.int .u8 2,.int .i64 e.at_] 171))
   have hff:Fr (fun x=>w.heap.size≤x) w6 wf:=by rw[hwf];exact((Fr.refl _ _).setCell (p:=⟨w.heap.size+1,0,none⟩) (.inl (by show w.heap.size≤w.heap.size+1;omega)) _).alloc _
   have hP:Bk wf w6.heap.size 171 #[.int .u8 2,.int .i64 e.at_]:=by rw[hwf];exact Bk.new_at _ _ _ (by simp)
   have HPP:=hdq (show zbL m s w (.returned (.pointer (some ⟨w6.heap.size,0,none⟩))) wf from zaH (zfX HIX.out HE.out HCO.out HLF.out.symm) (HF6.out.then hff fun b hb hc=>absurd hc (by show ¬w.heap.size≤b;omega)) hP (by have:=HF6.out.size;omega) (HH.out.far HR6.out hff))
   have hc:wf.cell? ⟨w.heap.size+1,0,none⟩=some (.pointer (some ⟨w6.heap.size,0,none⟩)):=by
    have:=((HB2.out.set_ 0 (.pointer (some ⟨w6.heap.size,0,none⟩))).alloc (.cells #[.int .u8 2,.int .i64 e.at_] 171)).cell 0
    rw[hwf];simpa using this
   have HWF:=hdq hwf
   have HC:=hdq hc
   clear hwf hff hP hc
   go_wp2_with fail
   rw[←HWF.out]
   exact bodyPost_ret (zal (p:=2) (ty:=168) rfl _ _ (w.heap.size+1) _ _ Tryz.underlying168 rfl HC.out) rfl HPP.out
  ·have hlp:0 < lf:=by omega
   have hl0':((lf:Int)==0)=false:=by simp;omega
   have HNC:=hdq (show ¬(zbp e.kind=true∧s.left=0)from by rw[←HLF.out];omega)
   have hsub:(lf:Int) - 1=((lf - 1:Nat):Int):=by omega
   have p1:=HR6.out.put 13 (.int .i64 ((lf - 1:Nat):Int)) (s':={s with left:=lf - 1}) (k':=0) (wr':=0) (at':=0) (ed':=i) rfl rfl rfl rfl
   obtain⟨wp,hwp⟩:=nmq (w6.setCell ⟨R,13,none⟩ (.int .i64 ((lf - 1:Nat):Int)))
   rw[←HRR.out,←hwp]at p1
   have HRP:=hdq (show MnR m wp (s.pay e) As cs 0 0 0 i from by rw[zlX HCO.out,←HLF.out];exact p1.1)
   have HFW:=hdq (HF6.out.trans p1.2)
   have hfp:Fr (fun x=>x=R) w6 wp:=by rw[hwp];exact Fr.own (Fr.refl _ _) _ _
   have HKW0:=hdq (HB0.out.fr hfp hnR0)
   have HKW1:=hdq (HB1.out.fr hfp (by show ¬w4.heap.size=R;omega))
   have HKW2:=hdq (HB2.out.fr hfp (by show ¬w.heap.size+1=R;omega))
   have HKW3:=hdq (HB3.out.fr hfp hnR3)
   have HWP:=hdq hwp
   clear p1 hwp hfp
   have hnx:NxE m (wp.alloc (.cells #[.int .u8 0,.int .i64 0] 246)) e A5 c5 (i::r) (some ⟨bi,oi,none⟩) co w.heap.size w.heap.size w4.heap.size (w.heap.size+1) w1.heap.size:=by
    have hz1:=HZ1.out
    have hz4:=HZ4.out
    refine⟨by rw[←HRR.out];exact HKW0.out.alloc _,?_,HKW2.out.alloc _,?_,?_,HH.out.below,?_,Nat.le_refl _,by omega,by omega,by omega,by omega,by omega,by omega,by omega,by omega⟩
    ·have:=HKW1.out.alloc (.cells #[.int .u8 0,.int .i64 0] 246)
     unfold edC
     rw[←HEK.out]
     exact this
    ·have:=HKW3.out.alloc (.cells #[.int .u8 0,.int .i64 0] 246)
     rw[HILR.out]at this
     exact this
    ·exact zeZ HSLA.out (HFW.out.alloc (.cells #[.int .u8 0,.int .i64 0] 246)) hbiw hnT
    ·intro b' o' e'
     simp only[Option.some.injEq,Addr.mk.injEq]at e'
     rw[←e'.1];exact hnT
   have HNX:=hdq (zcb m (wp.alloc (.cells #[.int .u8 0,.int .i64 0] 246)) (s.pay e) As cs i r e A5 c5 (some ⟨bi,oi,none⟩) co w.heap.size w.heap.size w4.heap.size (w.heap.size+1) w1.heap.size HH.out rfl (HRP.out.fr0 ((Fr.refl _ _).alloc _)) HM.out HIX.out HE.out (HX5.out.keep (Same.of_fr (HFW.out.alloc (.cells #[.int .u8 0,.int .i64 0] 246)) HH.out.lt HH.out.low)) hnx)
   have HBF:=hdq (Bk.new wp 246 #[.int .u8 0,.int .i64 0])
   have hTW:∀b,m.c.T b→b < w.heap.size:=HH.out.below
   have hWl:=HKW1.out.lt
   have HLE:=hdq (show zad m.c.g (s.pay e) e r=zad m.c.g s e r from rfl)
   have HWA:=hdq (show w.heap.size < wp.heap.size from by have:=HKW0.out.lt;exact this)
   have hz1':w.heap.size+1 < w1.heap.size:=by have:=HZ1.out;omega
   have hz4':w1.heap.size < w4.heap.size:=by have:=HZ4.out;omega
   have hnB0:¬(m.c.T w.heap.size∨w.heap.size=w4.heap.size∨w.heap.size=w.heap.size+1):=by
    rintro(hb|hb|hb)
    ·have:=hTW _ hb;omega
    ·omega
    ·omega
   clear hnx
   go_wp2_with fail
   rw[←HWP.out]
   go_at_call 158
   cases hdo:doE (s.pay e) e i with
   |inl t=>
    have HST:=hdq (show zaP m.c.g s= .inl {t with node:=zad m.c.g s e r}from by rw[zbH HIX.out HE.out HNC.out,hdo])
    refine(zc2 159 #[.pointer (some ⟨w.heap.size,0,none⟩),.pointer (some ⟨w4.heap.size,0,none⟩),.pointer (some ⟨w.heap.size+1,0,none⟩),.pointer (some ⟨w1.heap.size,0,none⟩)] (fun w'=>Fr (fun b=>m.c.T b∨b=w4.heap.size∨b=w.heap.size+1) (wp.alloc (.cells #[.int .u8 0,.int .i64 0] 246)) w'∧(∃As cs,MnR m w' t As cs 0 0 0 i)∧Bk w' (w.heap.size+1) 168 #[.pointer none]∧∃C:Array Value,Bk w' w4.heap.size 47 C∧C[1]?=some (.int .i64 (zad m.c.g s e r))) wp (enters_of Tryz.func159 (by kernel_rfl) rfl) (HNX.out.mono fun en w' hn=>?_)).mono ?_
    ·obtain⟨hf,hd⟩:=hn
     rw[hdo]at hd
     obtain⟨rfl,⟨As2,cs2,ht⟩,hb2,C,hb1,hC⟩:=hd
     refine⟨rfl,⟨hf,⟨As2,cs2,ht⟩,hb2,C,hb1,hC⟩,HBF.out.fr hf ?_⟩
     rintro(hb|hb|hb)
     ·have:=hTW _ hb;omega
     ·omega
     ·omega
    ·rintro _ w9 ⟨rfl,hf,⟨As2,cs2,ht⟩,hb2,C,hb1,hC⟩
     have hfw9:Fr m.c.T w w9:=(HFW.out.alloc (.cells #[.int .u8 0,.int .i64 0] 246)).then hf fun b hb hc=>by
      rcases hc with hc|hc|hc
      ·exact hc
      ·omega
      ·omega
     have kb0:=(HKW0.out.alloc (.cells #[.int .u8 0,.int .i64 0] 246)).fr hf hnB0
     have c0:=kb0.cell 0
     have c0l:=kb0.lt
     have c2:=hb2.cell 0
     have c2l:=hb2.lt
     have c1:=(hb1.cell 1).trans hC
     have c1l:=hb1.lt
     have u11:=ht.blk.cell 11
     have u12:=ht.blk.cell 12
     have uf11:=ht.blk.frozen 11
     have uf12:=ht.blk.frozen 12
     have ul:=ht.blk.lt
     simp only[mnC,rnC,List.getElem?_toArray,List.getElem?_cons_succ,List.getElem?_cons_zero]at c0 c2 u11 u12
     rw[←HRR.out]at u11 u12 uf11 uf12 ul
     obtain⟨wa,hwa⟩:=nmq (w9.alloc (.cells #[.int .u8 0,.int .i64 0] 246))
     have hfa:Fr NoT w9 wa:=by rw[hwa];exact(Fr.refl _ _).alloc _
     have hta:=ht.fr0 hfa
     have p1:=hta.put 11 (.int .i64 (zad m.c.g s e r)) (s':={t with node:=zad m.c.g s e r}) (k':=0) (wr':=0) (at':=0) (ed':=i) rfl rfl rfl rfl
     have p2:=p1.1.put 12 (.int .i64 0) (s':={t with node:=zad m.c.g s e r}) (k':=0) (wr':=0) (at':=0) (ed':=0) rfl rfl rfl rfl
     rw[←HRR.out]at p1 p2
     have c0a:=(hfa.cell (p:=⟨w.heap.size,0,none⟩) c0l id).trans c0
     have c1a:=(hfa.cell (p:=⟨w4.heap.size,1,none⟩) c1l id).trans c1
     have c2a:=(hfa.cell (p:=⟨w.heap.size+1,0,none⟩) c2l id).trans c2
     have u11a:=(hfa.cell (p:=⟨R,11,none⟩) ul id).trans u11
     have u12a:=(hfa.cell (p:=⟨R,12,none⟩) ul id).trans u12
     have uf11a:=(hfa.frozen (p:=⟨R,11,none⟩) ul id).trans uf11
     have uf12a:=(hfa.frozen (p:=⟨R,12,none⟩) ul id).trans uf12
     have c0la:=hfa.low c0l
     have c1la:=hfa.low c1l
     have c2la:=hfa.low c2l
     have ula:=hfa.low ul
     have HPP:=hdq (show zbL m s w (.returned (.pointer none)) ((wa.setCell ⟨R,11,none⟩ (.int .i64 (zad m.c.g s e r))).setCell ⟨R,12,none⟩ (.int .i64 0)).drew from zdd HST.out (((hfw9.trans hfa.any).trans (p1.2.trans p2.2)).drew) (p2.1.fr0 (Fr.refl _ _).drew))
     have hn1:¬w.heap.size=R:=by omega
     have hn2:¬R=w.heap.size:=by omega
     have hn3:¬w4.heap.size=R:=by omega
     have hn4:¬R=w4.heap.size:=by omega
     have hn5:¬w.heap.size+1=R:=by omega
     have hn6:¬R=w.heap.size+1:=by omega
     have HWA2:=hdq hwa
     clear hdo hf ht hb2 hb1 hC hfw9 kb0 hfa hta p1 p2 hwa
     go_wp2_with fail
     rw[←HWA2.out]
     go_region
     go_wp2_with fail
     refine bodyPost_ret (zal (p:=2) (ty:=168) rfl _ _ (w.heap.size+1) (.pointer none) _ Tryz.underlying168 rfl (by first|assumption|(go_simp;done)|simp[c2a])) rfl ?_
     exact HPP.out
   |inr z=>
    have HST:=hdq (show zaP m.c.g s= .inr z from by rw[zbH HIX.out HE.out HNC.out,hdo])
    by_cases hw:z.wrong=0
    ·refine(zc2 159 #[.pointer (some ⟨w.heap.size,0,none⟩),.pointer (some ⟨w4.heap.size,0,none⟩),.pointer (some ⟨w.heap.size+1,0,none⟩),.pointer (some ⟨w1.heap.size,0,none⟩)] (fun w'=>Fr (fun b=>m.c.T b∨b=w4.heap.size∨b=w.heap.size+1) (wp.alloc (.cells #[.int .u8 0,.int .i64 0] 246)) w'∧∃(k at_:Int) (P:Nat),z=(s.pay e).stop k 0 at_ i∧Bk w' P 171 #[.int .u8 k,.int .i64 at_]∧wp.heap.size≤P∧(∃As cs,MnR m w' (s.pay e) As cs 0 0 0 i)∧Bk w' (w.heap.size+1) 168 #[.pointer (some ⟨P,0,none⟩)]) wp (enters_of Tryz.func159 (by kernel_rfl) rfl) (HNX.out.mono fun en w' hn=>?_)).mono ?_
     ·obtain⟨hf,hd⟩:=hn
      rw[hdo]at hd
      rcases hd with⟨f,hf0,_,hz,_⟩|⟨k,at_,P,rfl,hz,hP,hPl,hM,hb2⟩
      ·rw[hz]at hw;exact absurd hw hf0
      ·refine⟨rfl,⟨hf,k,at_,P,hz,hP,Nat.le_trans ((Fr.refl NoT wp).alloc (.cells #[.int .u8 0,.int .i64 0] 246)).size hPl,hM,hb2⟩,HBF.out.fr hf ?_⟩
       rintro(hb|hb|hb)
       ·have:=hTW _ hb;omega
       ·omega
       ·omega
     ·rintro _ w9 ⟨rfl,hf,k,at_,P,hz,hP,hPl,⟨As2,cs2,ht⟩,hb2⟩
      have hfw9:Fr m.c.T w w9:=(HFW.out.alloc (.cells #[.int .u8 0,.int .i64 0] 246)).then hf fun b hb hc=>by
       rcases hc with hc|hc|hc
       ·exact hc
       ·omega
       ·omega
      have c2:=hb2.cell 0
      have c2l:=hb2.lt
      simp only[List.getElem?_toArray,List.getElem?_cons_succ,List.getElem?_cons_zero]at c2
      obtain⟨wa,hwa⟩:=nmq (w9.alloc (.cells #[.int .u8 0,.int .i64 0] 246))
      have hfa:Fr NoT w9 wa:=by rw[hwa];exact(Fr.refl _ _).alloc _
      have c2a:=(hfa.cell (p:=⟨w.heap.size+1,0,none⟩) c2l id).trans c2
      have HPP:=hdq (show zbL m s w (.returned (.pointer (some ⟨P,0,none⟩))) wa from zaH (by rw[HST.out,hz]) (hfw9.trans hfa.any) (hP.fr0 hfa) (by omega) (ht.fr0 hfa))
      have HWA2:=hdq hwa
      have HC2:=hdq c2a
      clear hdo hf ht hb2 hP hz hfw9 hfa hwa hw hPl
      go_wp2_with fail
      rw[←HWA2.out]
      exact bodyPost_ret (zal (p:=2) (ty:=168) rfl _ _ (w.heap.size+1) _ _ Tryz.underlying168 rfl HC2.out) rfl HPP.out
    ·refine(zeX 159 #[.pointer (some ⟨w.heap.size,0,none⟩),.pointer (some ⟨w4.heap.size,0,none⟩),.pointer (some ⟨w.heap.size+1,0,none⟩),.pointer (some ⟨w1.heap.size,0,none⟩)] (z.wrong,z.at_) (fun w'=>Fr (fun b=>m.c.T b∨b=w4.heap.size∨b=w.heap.size+1) (wp.alloc (.cells #[.int .u8 0,.int .i64 0] 246)) w'∧z=(s.pay e).stop 5 z.wrong z.at_ i∧(∃As cs,MnR m w' (s.pay e) As cs 0 0 0 i)∧Bk w' (w.heap.size+1) 168 #[.pointer none]) wp (enters_of Tryz.func159 (by kernel_rfl) rfl) (HNX.out.mono fun en w' hn=>?_)).mono ?_
     ·obtain⟨hf,hd⟩:=hn
      rw[hdo]at hd
      rcases hd with⟨f,hf0,rfl,hz,hM,hb2⟩|⟨k,at_,P,_,hz,_⟩
      ·refine⟨by rw[hz];rfl,⟨hf,by rw[hz];rfl,hM,hb2⟩,HBF.out.fr hf ?_⟩
       rintro(hb|hb|hb)
       ·have:=hTW _ hb;omega
       ·omega
       ·omega
      ·rw[hz]at hw;exact absurd rfl hw
     ·rintro _ w9 ⟨rfl,w8,⟨hf,hz,⟨As2,cs2,ht⟩,hb2⟩,hb89⟩
      obtain⟨zw,hzw⟩:=nmq z.wrong
      obtain⟨za,hza⟩:=nmq z.at_
      rw[←hzw,←hza]at hz
      rw[←hzw]at hw
      rw[←hzw,←hza]
      clear hzw hza
      have hfw8:Fr m.c.T w w8:=(HFW.out.alloc (.cells #[.int .u8 0,.int .i64 0] 246)).then hf fun b hb hc=>by
       rcases hc with hc|hc|hc
       ·exact hc
       ·omega
       ·omega
      have hf89:Fr (fun b=>wp.heap.size≤b) w8 w9:=Fr.of hb89 fun b _ hb=>hb
      have hfw9:Fr m.c.T w w9:=hfw8.then hf89 fun b hb hc=>by omega
      have ht9:MnR m w9 (s.pay e) As2 cs2 0 0 0 i:=HH.out.far ht (hf89.mono fun b _ hc=>by have hc:wp.heap.size≤b:=hc;show w.heap.size≤b;omega)
      have kb0:=((HKW0.out.alloc (.cells #[.int .u8 0,.int .i64 0] 246)).fr hf hnB0).fr hf89 (by show ¬wp.heap.size≤w.heap.size;omega)
      have hb29:=hb2.fr hf89 (by show ¬wp.heap.size≤w.heap.size+1;have:=HKW2.out.lt;omega)
      have c0:=kb0.cell 0
      have c0l:=kb0.lt
      have c2:=hb29.cell 0
      have c2f:=hb29.frozen 0
      have c2l:=hb29.lt
      have u9:=ht9.blk.cell 9
      have uf9:=ht9.blk.frozen 9
      have ul:=ht9.blk.lt
      simp only[mnC,rnC,List.getElem?_toArray,List.getElem?_cons_succ,List.getElem?_cons_zero]at c0 c2 u9
      rw[←HRR.out]at u9 uf9 ul
      have hzw1:(zw != 0)=true:=by simpa using hw
      have hzw2:(zw==0)=false:=by simpa using hw
      have p1:=ht9.put 9 (.int .u8 zw) (s':=s.pay e) (k':=0) (wr':=zw) (at':=0) (ed':=i) rfl rfl rfl rfl
      rw[←HRR.out]at p1
      have hn1:¬w.heap.size=R:=by omega
      have hn2:¬R=w.heap.size:=by omega
      have hn5:¬w.heap.size+1=R:=by omega
      have hn6:¬R=w.heap.size+1:=by omega
      have HP1:=hdq p1
      have HT9:=hdq ht9
      have HFW9:=hdq hfw9
      have HZ:=hdq hz
      have HKB2:=hdq hb29
      clear hdo hf ht hb2 hz hfw8 hf89 hfw9 kb0 hb29 ht9 p1 hb89
      obtain⟨wf,hwf⟩:=nmq ((((w9.setCell ⟨R,9,none⟩ (.int .u8 zw)).setCell ⟨w.heap.size+1,0,none⟩ (.pointer (some ⟨w9.heap.size+1,0,none⟩))).alloc (.cells #[.int .u8 zw,.int .i64 za] 246)).alloc (.cells #[.int .u8 5,.int .i64 za] 171))
      have hff:Fr (fun x=>w.heap.size≤x) (w9.setCell ⟨R,9,none⟩ (.int .u8 zw)) wf:=by rw[hwf];exact(((Fr.refl _ _).setCell (p:=⟨w.heap.size+1,0,none⟩) (.inl (by show w.heap.size≤w.heap.size+1;omega)) _).alloc _).alloc _
      have hP:Bk wf (w9.heap.size+1) 171 #[.int .u8 5,.int .i64 za]:=by rw[hwf];exact Bk.new_at _ _ _ (by simp)
      have HPP:=hdq (show zbL m s w (.returned (.pointer (some ⟨w9.heap.size+1,0,none⟩))) wf from zaH (by rw[HST.out,HZ.out]) ((HFW9.out.trans HP1.out.2).then hff fun b hb hc=>absurd hc (by show ¬w.heap.size≤b;omega)) hP (by have:=HFW9.out.size;omega) (HH.out.far HP1.out.1 hff))
      have hfR:Fr (fun b=>b=R) w9 (w9.setCell ⟨R,9,none⟩ (.int .u8 zw)):=Fr.own (Fr.refl _ _) _ _
      have hc:wf.cell? ⟨w.heap.size+1,0,none⟩=some (.pointer (some ⟨w9.heap.size+1,0,none⟩)):=by
       have:=((((HKB2.out.fr hfR hn5).set_ 0 (.pointer (some ⟨w9.heap.size+1,0,none⟩))).alloc (.cells #[.int .u8 zw,.int .i64 za] 246)).alloc (.cells #[.int .u8 5,.int .i64 za] 171)).cell 0
       rw[hwf];simpa using this
      have HWF:=hdq hwf
      have HC:=hdq hc
      clear hwf hff hP hfR hc
      go_wp2_with fail
      rw[←HWF.out]
      exact bodyPost_ret (zal (p:=2) (ty:=168) rfl _ _ (w.heap.size+1) _ _ Tryz.underlying168 rfl HC.out) rfl HPP.out
end Go.Proofs.YtobegfbdedgmpaaGreatDoor
