/- law15. -/
import Derived.Test.YtfomomaomggpbaaGreatDoorJgSrS
import Derived.Test.YtfomomaomggpbaaGreatDoorJnPs
set_option linter.all false
set_option maxHeartbeats 3200000
set_option maxRecDepth 100000
namespace Go.Proofs.YtfomomaomggpbaaGreatDoor
open Go.RowKit Go.Shelf Go.Maps
def TrueB (W:World)(e:Ending)(w':World):Prop:=e= .returned (.bool true)/\Fr NoT W w'
def al0:List UInt8:= [118,97,114,32,120,59,112,114,111,99,32,112,40,117,41,123,120,61,120,43,117,59,125,109,97,105,110,123,99,97,108,108,32,112,40,50,41,59,99,97,108,108,32,112,40,120,41,59,125]
def alX:ByteArray:=⟨#[120]⟩
def alU:ByteArray:=⟨#[117]⟩
def alP:ByteArray:=⟨#[112]⟩
def alN:ByteArray:=⟨#[]⟩
def alB:Sts:= .cons 2 alX (.cons 5 alN 0 (.cons 2 alX 0 .nil 18 (.cons 2 alU 0 .nil 20 .nil)) 19 .nil) .nil .nil .nil 16 .nil
def al1:Tre:=⟨[⟨alX,4⟩], [], [⟨alP, [⟨alU,13⟩],alB,11⟩],
 .cons 9 alP (.cons 1 alN 2 .nil 35 .nil) .nil .nil .nil 28 (.cons 9 alP (.cons 2 alX 0 .nil 45 .nil) .nil .nil .nil 38 .nil)⟩
theorem znE:zcN al0=(al1,0,0):=by kernel_rfl
theorem zpy:zbw al1=(0,0):=by kernel_rfl
theorem al_sz:SzT al1:=by
 refine⟨by decide+kernel,by decide+kernel,λx hx=>?_,?_⟩
 ·obtain rfl:x=⟨alP, [⟨alU,13⟩],alB,11⟩:=List.mem_singleton.1 hx;refine⟨by decide,by decide+kernel,?_⟩;unfold alB
  repeat' first|exact trivial|apply aG|(show ByteArray.size _<=_;decide)
 ·show szS al1.main
  repeat' first|exact trivial|apply aG|(show ByteArray.size _<=_;decide)
theorem RunT.plainE {n:Bn}{ps:List (List UInt8)}{k:Int}{nm:ByteArray}{args:Exs}{cond:Cds}{body els:Sts}{at_:Int}{s t:Bs}{h:Option Ho}(hk:k<=4)(e:zbj n ps s k nm args at_=(h,t)):RunT n (.one ps k nm args cond body els at_) s h t:=by
 have:=RunT.plain (n:=n) (ps:=ps) (k:=k) (nm:=nm) (args:=args) (cond:=cond) (body:=body) (els:=els) (at_:=at_) (s:=s) hk;rw[e]at this;exact this
theorem zqj:RunT (bnOf al1) (.all [] al1.main) (bs0 al1 [] 9) none ⟨[4], [], [],3, []⟩:=by
 have hp:(bnOf al1).procs alP.data.toList=some ⟨alP, [⟨alU,13⟩],alB,11⟩:=by kernel_rfl
 refine .next (s1:=⟨[2], [], [],6, []⟩) ?_ (.next (s1:=⟨[4], [], [],3, []⟩) ?_ .nil)
 ·exact .call (m:=8) (xs:= [2]) (t:=⟨[0], [], [],7, []⟩) (u:=⟨[2], [], [],6, [2]⟩) (by kernel_rfl) hp (by kernel_rfl) (.next (s1:=⟨[2], [], [],6, [2]⟩) (.plainE (by decide) (by kernel_rfl)) .nil)
 ·exact .call (m:=5) (xs:= [2]) (t:=⟨[2], [], [],4, []⟩) (u:=⟨[4], [], [],3, [2]⟩) (by kernel_rfl) hp (by kernel_rfl) (.next (s1:=⟨[4], [], [],3, [2]⟩) (.plainE (by decide) (by kernel_rfl)) .nil)
def zqk (h:Option Ho)(u:Bs)(W:World)(e:Ending)(w':World):Prop:=Fr NoT W w'/\∃V A c bs,e= .returned (.tuple #[.agg (zdG (hoD h).kind (hoD h).wrong (hoD h).at_ (.int .i64 0) (.int .i64 0) (.int .i64 u.left) (.slice (some ⟨V,0,none⟩) u.vs.length u.vs.length) (.slice A u.ls.length c)),.bool true])/\Sto w' W.heap.size u.vs u.ls V A c bs
theorem znF (x:List UInt8)(hx:x.toArray.size<=9223372036854775807)(t:Tre)(hp:zcN x=(t,0,0))(ht:zbw t=(0,0))(hz:SzT t)(steps:Int)(hs:0<=steps/\steps<=65536)(h:Option Ho)(u:Bs)(hr:RunT (bnOf t) (.all [] t.main) (bs0 t [] steps) h u)(w:World)(he:NameEnv w):
  Calls Tryz.prog 13 #[.string ⟨x.toArray⟩,.int .i64 steps] w (zqk h u w):=by
 obtain⟨w1,Hc⟩:=aF (w.alloc (.cells #[.int .u8 0,.int .u8 0,.int .i64 0,.int .i64 0,.int .i64 0,.int .i64 0,.slice none 0 0,.slice none 0 0] 34));have Hd:Fr NoT w w1:=by rw[Hc];exact aH.alloc _
 have Fo:Bk w1 w.heap.size 34 #[.int .u8 0,.int .u8 0,.int .i64 0,.int .i64 0,.int .i64 0,.int .i64 0,.slice none 0 0,.slice none 0 0]:=by rw[Hc];exact Bk.new _ _ _
 obtain⟨X,hX⟩:=aF ((⟨x.toArray⟩:ByteArray));have h1:=zkH X (by rw[hX];exact hx) w1 (he.keep Hd.plain);rw[show X.data.toList=x from by rw[hX],hp]at h1;rw[<-hX];have qe:bigE t ([]:List Int).length steps=0:=by
  unfold bigE;rw[ht,if_pos rfl,if_neg (by decide),if_neg (by omega)]
 have Ge:=aA Hc;have Hl:=aA Hd;have K0:=aA Fo;have H1:=aA (show Calls Tryz.prog 29 _ w1 (λe w'=>∃Av Aa Ap Am cv ca cp cm,e= .returned (.tuple #[trV t Av Aa Ap Am cv ca cp cm,.int .i64 0,.int .i64 0])/\TrR w' (New w1.heap.size w') False t Av Aa Ap Am cv ca cp cm/\Below w1.heap.size w1 w')from h1);have HE:=aA he;have Xo:=aA qe;have HR:=aA (aG hr (aG hz hs));clear Hc Hd Fo h1 he qe hX hx hp ht hz hs hr;unfold trV at H1;obtain⟨nv,Nj⟩:=aF t.vars.length;obtain⟨na,Pc⟩:=aF t.arrays.length;obtain⟨np,M1⟩:=aF t.procs.length;obtain⟨nm,Jt⟩:=aF t.main.len;rw[<-Nj,<-Pc,<-M1,<-Jt]at H1;have HN:=aA (aG Nj (aG Pc (aG M1 Jt)));clear Nj Pc M1 Jt;go_enter Tryz.func13,Tryz.ntmps13;go_wp2_with fail;rw[<-Ge.out];refine H1.mono ?_;rintro _ w2 ⟨Av,Aa,Ap,Am,cv,ca,cp,cm,rfl,hT,hb⟩;have He:Fr NoT w1 w2:=Fr.below hb;obtain⟨w3,GR⟩:=aF (w2.alloc (.cells #[.slice Av nv cv,.slice Aa na ca,.slice Ap np cp,.slice Am nm cm] 27));have Gg:Fr NoT w2 w3:=by rw[GR];exact aH.alloc _
 have UR:Fr NoT w w3:=(Hl.trans He).trans Gg;have h3:=(zok t [] steps h u w3 (New w1.heap.size w2) False Av Aa Ap Am none cv ca cp cm 0 (HE.keep UR.plain).toSp (λb hb=>aM hb.2 Gg.size) HR.2.1 (hT.keep (Gg.same λb hb=>⟨hb.2,id⟩)) ⟨aL _,by decide,λh=>absurd h (by decide)⟩ (by have:=HR.2.2;unfold in64;omega) λ_=>HR.1).mono (λe w' (q:BigP t [] steps h u w3 e w')=>(⟨q.1,by have h1:=q.2;rwa [if_pos Xo.out]at h1⟩:Fr NoT w3 w'/\∃V A c bs,e= .returned (.tuple #[.agg (zdG (hoD h).kind (hoD h).wrong (hoD h).at_ (.int .i64 0) (.int .i64 0) (.int .i64 u.left) (.slice (some ⟨V,0,none⟩) u.vs.length u.vs.length) (.slice A u.ls.length c)),.int .i64 0])/\Sto w' w3.heap.size u.vs u.ls V A c bs));unfold trV at h3;rw[<-HN.1,<-HN.2.1,<-HN.2.2.1,<-HN.2.2.2,show([]:List Int).length =0 from rfl]at h3;obtain⟨k0,GI⟩:=aF ((hoD h).kind );obtain⟨k1,Fo⟩:=aF ((hoD h).wrong );obtain⟨k2,GS⟩:=aF ((hoD h).at_ );obtain⟨k5,Hz⟩:∃k:Int,k=u.left:=⟨_,rfl⟩;obtain⟨k6,Fj⟩:=aF u.vs.length;obtain⟨k7,KO⟩:=aF u.ls.length;unfold zqk;rw[<-GI,<-Fo,<-GS,<-Hz,<-Fj,<-KO]at h3 ⊢;have U9:=aA (aG GI (aG Fo (aG GS (aG Hz (aG Fj KO)))));have H3:=aA h3;have LT:=aA GR;have ja:=aA UR;have Ly:=aA ((K0.fr0 He).fr0 Gg);clear hT hb He GR Gg UR h3 GI Fo GS Hz Fj KO;go_wp2_with fail;rw[<-LT.out];go_at_call 9;refine H3.mono ?_;rintro _ w6 ⟨GA,V,A,c,bs,rfl,Gu⟩;unfold zdG;have Fj:=Ly.fr0 GA;have qf:w.heap.size < w3.heap.size:=Ly.lt
 obtain⟨w7,PC⟩:=aF ((((((((w6.setCell ⟨w.heap.size,0,none⟩ (.int .u8 k0)).setCell ⟨w.heap.size,1,none⟩ (.int .u8 k1)).setCell ⟨w.heap.size,2,none⟩ (.int .i64 k2)).setCell ⟨w.heap.size,3,none⟩ (.int .i64 0)).setCell ⟨w.heap.size,4,none⟩ (.int .i64 0)).setCell ⟨w.heap.size,5,none⟩ (.int .i64 k5)).setCell ⟨w.heap.size,6,none⟩ (.slice (some ⟨V,0,none⟩) k6 k6)).setCell ⟨w.heap.size,7,none⟩ (.slice A k7 c));have PJ:Fr (λi=>i=w.heap.size) w6 w7:=by rw[PC];exact(Fr.own (Fr.own (aJ (aJ (aJ (aJ (aJ (aJ aH)))))) _ _) _ _)
 have KO:Bk w7 w.heap.size 34 #[.int .u8 k0,.int .u8 k1,.int .i64 k2,.int .i64 0,.int .i64 0,.int .i64 k5,.slice (some ⟨V,0,none⟩) k6 k6,.slice A k7 c]:=by
  have:=((((((((Fj.set_ 0 (.int .u8 k0)).set_ 1 (.int .u8 k1)).set_ 2 (.int .i64 k2)).set_ 3 (.int .i64 0)).set_ 4 (.int .i64 0)).set_ 5 (.int .i64 k5)).set_ 6 (.slice (some ⟨V,0,none⟩) k6 k6)).set_ 7 (.slice A k7 c));rw[PC];simpa using this
 obtain⟨wf,Pe⟩:=aF (w7.alloc (.cells #[.int .u8 k0,.int .u8 k1,.int .i64 k2,.int .i64 0,.int .i64 0,.int .i64 k5,.slice (some ⟨V,0,none⟩) k6 k6,.slice A k7 c] 34));have Hs:Fr NoT w7 wf:=by rw[Pe];exact aH.alloc _
 have XI:=KO.fr0 Hs;have JD:Fr NoT w wf:=(zlZ (ja.trans GA) PJ λi hi e=>by have e:i=w.heap.size:=e;omega).trans Hs;have QF:=zc6 Gu PJ λb e=> .inl (by have e:b=w.heap.size:=e;omega);have Gb:=aA ((zc6 QF Hs λb e=>e.elim).lower (Nat.le_of_lt qf));have zg:=aA PC;have J6:=aA Fj;have XA:=aA Pe;have Ke:=aA JD;have jb:=aA XI;clear GA Gu QF Fj PC Hs KO Pe PJ XI JD qf;have El:=J6.frozen 0;have Em:=J6.frozen 1;have Eo:=J6.frozen 2;have Ep:=J6.frozen 3;have Er:=J6.frozen 4;have Es:=J6.frozen 5;have Et:=J6.frozen 6;have Eu:=J6.frozen 7;have DX:=J6.cell 0;have DY:=J6.cell 1;have uG:=J6.cell 2;have DZ:=J6.cell 3;have D0:=J6.cell 4;have D3:=J6.cell 5;have D4:=J6.cell 6;have D5:=J6.cell 7;have kl:=J6.lt;simp only[aD]at DX DY uG DZ D0 D3 D4 D5;go_wp2_with fail;rw[<-zg.out,<-XA.out];refine bodyPost_ret (zdL (p:=4) (q:=5) (ty:=34) rfl _ _ w.heap.size 34 _ (0,0) _ rfl jb.out Tryz.underlying34 rfl zpw) rfl ?_;obtain⟨rfl,rfl,rfl,rfl,rfl,rfl⟩:=U9.out;exact⟨Ke.out,V,A,c,bs,rfl,Gb.out⟩
theorem zjJ (w:World)(he:NameEnv w):Calls Tryz.prog 14 #[] w (TrueB w):=by
 have h1:=znF al0 (by decide) al1 znE zpy al_sz 9 (by decide) none ⟨[4], [], [],3, []⟩ zqj w he;unfold al0 at h1;have H1:=aA (show Calls Tryz.prog 13 _ w (λe w'=>Fr NoT w w'/\∃V A c bs,e= .returned (.tuple #[.agg #[.int .u8 1,.int .u8 0,.int .i64 0,.int .i64 0,.int .i64 0,.int .i64 3,.slice (some ⟨V,0,none⟩) 1 1,.slice A 0 c],.bool true])/\Sto w' w.heap.size [4] [] V A c bs)from h1);clear h1 he;go_enter Tryz.func14,Tryz.ntmps14;go_wp2_with fail;refine H1.mono ?_;rintro _ w2 ⟨hf,V,A,c,bs,rfl,Gu⟩;have kv:=Gu.v.cell 0;have kl:=Gu.v.lt;simp only[intL,List.map_cons,List.map_nil,List.getElem?_toArray,List.getElem?_cons_zero]at kv;have HF:=aA hf;clear hf Gu;go_wp2_with fail;go_ret;exact⟨rfl,HF.alloc _⟩
def zql (W:World)(e:Ending)(w':World):Prop:=e= .returned (.bool true)/\Below W.heap.size W w'
theorem TrueB.plain {W:World}{e:Ending}{w':World}(h:TrueB W e w'):zql W e w':=⟨h.1,h.2.plain⟩
