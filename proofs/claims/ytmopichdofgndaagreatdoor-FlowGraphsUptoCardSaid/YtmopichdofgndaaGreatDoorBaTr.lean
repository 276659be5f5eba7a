/- ref10.Bare. -/
import Derived.Test.YtmopichdofgndaaGreatDoorJnBa
import Derived.Test.YtmopichdofgndaaGreatDoorRwSeq
set_option linter.all false
namespace Go.Proofs.YtmopichdofgndaaGreatDoor
open Go.RowKit Go.Shelf
set_option maxRecDepth 100000 in
set_option maxHeartbeats 3200000 in
theorem zlk (t:Tre)(w:World)(S:Nat->Prop)(Z:Prop)(Av Aa Ap Am:Option Addr)(cv ca cp cm:Nat)(hS:∀b,S b->b < w.heap.size)(hx:TrR w S Z t Av Aa Ap Am cv ca cp cm):
  Calls Tryz.prog 7 #[trV t Av Aa Ap Am cv ca cp cm] w (BaP t.bare w):=by
 unfold trV;have hX:=λ(W:World)(hf:Fr NoT w W)=>hx.keep (hf.same λb hb=>⟨hS b hb,id⟩);have KN:=λ(W:World)(hf:Fr NoT w W) b (hb:S b)=>ltq (hS b hb) hf.size;obtain⟨n1,Gk⟩:=nmq t.vars.length;obtain⟨n2,Gu⟩:=nmq t.arrays.length;obtain⟨n3,GJ⟩:=nmq t.procs.length;obtain⟨n4,GV⟩:=nmq t.main.len;have h1:=λ(W:World)(hf:Fr NoT w W)=>zf0 t.vars W S Z Av cv (KN W hf) (hX W hf).vars;have h4:=λ(W:World)(hf:Fr NoT w W)=>zeA t.main W S Z Am cm (KN W hf) (hX W hf).main;rw[<-Gk]at h1;rw[<-GV]at h4;have l2:n2<=9223372036854775807:=by rw[Gu];exact leq9 hx.arrays.1 hx.arrays.2.1.1
 have l3:n3<=9223372036854775807:=by rw[GJ];exact leq9 hx.procs.1 hx.procs.2.1.1
 rw[<-Gk,<-Gu,<-GJ,<-GV];have HX:=hdq hx;have HS:=hdq hS;have Le:=hdq Gu;have JO:=hdq GJ;have H1:=hdq h1;have H4:=hdq h4;obtain⟨w1,Hc⟩:=nmq ((w.alloc (.cells #[.slice Av n1 cv,.slice Aa n2 ca,.slice Ap n3 cp,.slice Am n4 cm] 27)).alloc (.cells #[.slice none 0 0,.slice none 0 0,.slice none 0 0,.slice none 0 0] 27));have M3:Fr NoT w w1:=by rw[Hc];exact((Fr.refl _ _).alloc _).alloc _
 have k1:Bk w1 w.heap.size 27 #[.slice Av n1 cv,.slice Aa n2 ca,.slice Ap n3 cp,.slice Am n4 cm]:=by
  rw[Hc];exact(Bk.new _ _ _).fr0 ((Fr.refl _ _).alloc _)
 have k2:Bk w1 (w.heap.size+1) 27 #[.slice none 0 0,.slice none 0 0,.slice none 0 0,.slice none 0 0]:=by
  rw[Hc];exact Bk.new_at _ _ _ (by simp)
 have Gh:w1.heap.size=w.heap.size+1+1:=by rw[Hc];simp
 have Hn:=hdq M3;have Gv:=hdq k1;have FX:=hdq k2;have Ga:=hdq Hc;have Rc:=hdq Gh;have y0:=k1.cell 0;have y3:=k1.cell 3;have Kg:=k1.lt;simp only[getsL]at y0 y3;clear hx hS Gk Gu GJ GV Hc M3 k1 k2 hX KN h1 h4 Gh;go_enter Tryz.func7,Tryz.ntmps7;go_wp2_with fail;rw[<-Ga.out];go_cut [3] (λs3 wx=>∃P A1 c1 A4 c4,s3= .pointer (some ⟨P,0,none⟩)/\Hid (Fr NoT w1 wx/\w1.heap.size<=P/\Bk wx P 27 #[.slice A1 t.vars.length c1,.slice none 0 0,.slice none 0 0,.slice A4 t.main.bare.len c4]/\BaQ w1.heap.size wx.heap.size t P A1 c1 A4 c4 wx));case first=>
  go_region_held2 (λW'=>W'.cell? ⟨w.heap.size,0,none⟩=some (.slice Av n1 cv)/\W'.cell? ⟨w.heap.size,3,none⟩=some (.slice Am n4 cm))
   (first
    |(refine⟨?_,?_⟩<;>with_reducible assumption)
    |(refine⟨(Fr.cell (T:=NoT) (w:=w1) ?_ Kg id).trans y0,(Fr.cell (T:=NoT) (w:=w1) ?_ Kg id).trans y3⟩
      all_goals(repeat(first|exact Fr.refl _ _|exact M5|exact MH|refine Fr.alloc ?_ _|refine Fr.drew ?_ |refine Fr.high ?_ (by omega) _ _))))
   (first
    |(go_at_call 24
      refine(H1 w1.drew (Hn.trans (Fr.refl NoT w1).drew)).mono ?_;rintro _ w5 ⟨A1,c1,rfl,s1,Hs⟩;have MH:Fr NoT w1 w5:=(Fr.refl NoT w1).drew.trans Hs;have NO:=MH.size;have Ny:=hdq s1;have gK:Hid (w1.heap.size<=w1.drew.heap.size):=lrq _;clear s1 Hs)
    |(go_at_call 24
      have K3:Fr NoT w1 (w1.alloc (.cells #[.slice none 0 0,.slice none 0 0,.slice none 0 0,.slice none 0 0] 27)).drew :=((Fr.refl _ _).alloc _).drew;refine(H1 (w1.alloc (.cells #[.slice none 0 0,.slice none 0 0,.slice none 0 0,.slice none 0 0] 27)).drew (Hn.trans K3)).mono ?_;rintro _ w5 ⟨A1,c1,rfl,s1,Hs⟩;have MH:Fr NoT w1 w5:=K3.trans Hs;have NO:=MH.size;have kc:w1.heap.size < w5.heap.size:=by have:=Hs.size;simp at this;omega
      have Ny:=hdq s1;have kd:=hdq ((show Bk (w1.alloc (.cells #[.slice none 0 0,.slice none 0 0,.slice none 0 0,.slice none 0 0] 27)).drew w1.heap.size 27 #[.slice none 0 0,.slice none 0 0,.slice none 0 0,.slice none 0 0]from Bk.new _ _ _).fr0 Hs);have gK:Hid (w1.heap.size<=(w1.alloc (.cells #[.slice none 0 0,.slice none 0 0,.slice none 0 0,.slice none 0 0] 27)).drew.heap.size):=K3.size;have xi:Hid (w1.heap.size < (w1.alloc (.cells #[.slice none 0 0,.slice none 0 0,.slice none 0 0,.slice none 0 0] 27)).drew.heap.size):=by show w1.heap.size < (w1.alloc _).heap.size;simp
      clear s1 Hs K3)
    |(go_at_call 25
      refine(H4 w5 (Hn.trans MH)).mono ?_;rintro _ w7 ⟨A4,c4,rfl,s4,KQ⟩;have UQ:=hdq (kd.fr0 KQ);have M5:Fr NoT w1 w7:=MH.trans KQ;have Wq:=KQ.size;have Lj:=hdq s4;clear s4;have Lz:=UQ.out;have q0:=Lz.cell 0;have q1:=Lz.cell 1;have q2:=Lz.cell 2;have q3:=Lz.cell 3;have g0:=Lz.frozen 0;have g1:=Lz.frozen 1;have g2:=Lz.frozen 2;have g3:=Lz.frozen 3;have gl:=Lz.lt;simp only[getsL]at q0 q1 q2 q3;clear Lz)
    |(go_at_call 25
      refine(H4 w5 (Hn.trans MH)).mono ?_;rintro _ w7 ⟨A4,c4,rfl,s4,KQ⟩;have M5:Fr NoT w1 w7:=MH.trans KQ;have Wq:=KQ.size;have Lj:=hdq s4;clear s4)
    |(go_at_call 25
      have K3:Fr NoT w5 (w5.alloc (.cells #[.slice none 0 0,.slice none 0 0,.slice none 0 0,.slice none 0 0] 27)):=(Fr.refl _ _).alloc _;refine(H4 (w5.alloc (.cells #[.slice none 0 0,.slice none 0 0,.slice none 0 0,.slice none 0 0] 27)) ((Hn.trans MH).trans K3)).mono ?_;rintro _ w7 ⟨A4,c4,rfl,s4,Gw⟩;have KQ:Fr NoT w5 w7:=K3.trans Gw;have M5:Fr NoT w1 w7:=MH.trans KQ;have Wq:w5.heap.size < w7.heap.size:=by have:=Gw.size;simp at this;omega
      have Lj:=hdq s4;have UQ:=hdq ((show Bk (w5.alloc (.cells #[.slice none 0 0,.slice none 0 0,.slice none 0 0,.slice none 0 0] 27)) w5.heap.size 27 #[.slice none 0 0,.slice none 0 0,.slice none 0 0,.slice none 0 0]from Bk.new _ _ _).fr0 Gw);clear s4 Gw K3;have Lz:=UQ.out;have q0:=Lz.cell 0;have q1:=Lz.cell 1;have q2:=Lz.cell 2;have q3:=Lz.cell 3;have g0:=Lz.frozen 0;have g1:=Lz.frozen 1;have g2:=Lz.frozen 2;have g3:=Lz.frozen 3;have gl:=Lz.lt;simp only[getsL]at q0 q1 q2 q3;clear Lz))
  all_goals
   go_wp2_with fail
   go_meet
   first
    |(refine⟨w7.heap.size,A1,c1,A4,c4,rfl,hdq ⟨M5.alloc _,M5.size,Bk.new _ _ _,BaQ.of Ny.out Lj.out ((KQ.any).trans ((Fr.refl _ _).alloc _)) ((Fr.refl _ _).alloc _) ⟨gK.out,NO⟩ (.inr Wq) (.inr (lrq _))⟩⟩;done)
    |(refine⟨w5.heap.size,A1,c1,A4,c4,rfl,hdq ⟨Fr.high (Fr.high (Fr.high (Fr.high M5 NO _ _) NO _ _) NO _ _) NO _ _,NO,?_,BaQ.of Ny.out Lj.out ((KQ.any).trans (Fr.own (Fr.own (Fr.own (Fr.own (Fr.refl _ _) _ _) _ _) _ _) _ _)) (Fr.own (Fr.own (Fr.own (Fr.own (Fr.refl _ _) _ _) _ _) _ _) _ _) ⟨gK.out,by simp;omega⟩ (.inr (lrq _)) (.inl (by simp))⟩⟩
      have FR:=(((UQ.set_ 0 (.slice A1 t.vars.length c1)).set_ 1 (.slice none 0 0)).set_ 2 (.slice none 0 0)).set_ 3 (.slice A4 t.main.bare.len c4);simpa using FR)
    |(refine⟨w1.heap.size,A1,c1,A4,c4,rfl,hdq ⟨Fr.high (Fr.high (Fr.high (Fr.high M5 (lrq _) _ _) (lrq _) _ _) (lrq _) _ _) (lrq _) _ _,lrq _,?_,BaQ.of Ny.out Lj.out ((KQ.any).trans (Fr.own (Fr.own (Fr.own (Fr.own (Fr.refl _ _) _ _) _ _) _ _) _ _)) (Fr.own (Fr.own (Fr.own (Fr.own (Fr.refl _ _) _ _) _ _) _ _) _ _) ⟨gK.out,NO⟩ (.inl xi.out) (.inl kc)⟩⟩
      have FR:=(((UQ.set_ 0 (.slice A1 t.vars.length c1)).set_ 1 (.slice none 0 0)).set_ 2 (.slice none 0 0)).set_ 3 (.slice A4 t.main.bare.len c4);simpa using FR)
    |fail "close"
 case rest=>
  obtain⟨P,A1,c1,A4,c4,rfl,hq⟩:=hcut;obtain⟨ke,hP,L4,ya⟩:=hq.out;have Wn:=L4.lt;obtain⟨iA,XH,YD,YE,YF⟩:=info_parts zi0;obtain⟨iP,yb,YG,YH,YI⟩:=info_parts zm8;have TH:=hdq (aiq XH (aiq YD (aiq YE YF)));have gL:=hdq (aiq yb (aiq YG (aiq YH YI)));have HP:=hdq hP;have Wr:=hdq Wn;have yd:n2*32<=140737488355328:=by rw[Le.out];exact HX.arrays.2.1.2
  have ye:n3*72<=140737488355328:=by rw[JO.out];exact HX.procs.2.1.2
  have gM:=hdq yd;have yg:=hdq ye;have JJ:=hdq (show TaX w1 wc t P A1 c1 A4 c4 (.slice none 0 0) wc [] [] 0 from⟨ke,L4,ya,lrq _,World.ownsRow_nil _ _ _ _,rfl,rfl,rfl⟩);have y2:=(ke.cell (p:=⟨w.heap.size,1,none⟩) Kg id).trans (Gv.cell 1);clear hq ke L4 ya XH YD YE YF yb YG YH YI yd ye y0 y3 hP Wn y2;go_wp2_with fail;go_loopw [4] (λi wr=>∃k:Nat,k<=n2/\i= .int .i64 k/\∃(v:Value)(acc:List Arr)(cs:List Value),Hid (TaX w1 wc t P A1 c1 A4 c4 v wr acc cs k)) (λi _=>n2 - (intOf i).toNat);case atStart=>exact⟨0,Nat.zero_le _,rfl,_, [], [],JJ⟩
  case round=>
   clear JJ;obtain⟨k,hk,rfl,v,acc,cs,hb⟩:=hrel;have Hp:=Gv.fr0 hb.fr;have y1:=Hp.cell 1;have y2:=Hp.cell 2;have yl:=Hp.lt;have q1:=hb.bk.cell 1;have g1:=hb.bk.frozen 1;have pl:=hb.bk.lt;simp only[getsL]at y1 y2 q1;clear Hp;by_cases Hr:k < n2
   ·obtain⟨⟨a0,a1,a2⟩,ar,hd⟩:=zac (show k < t.arrays.length from by rw[<-Le.out];exact Hr);obtain⟨b,o,rfl,Hd⟩:=HX.arrays.2.2 (by rw[<-Le.out];omega);have Hb:=(ArR.keep ((Hn.trans hb.fr).same λb hb=>⟨HS b hb,id⟩) Hd).drop k;rw[hd.1]at Hb;obtain⟨⟨Hf,_,r0,r1,d0,d1,d2⟩,_⟩:=Hb;have Ff:=HS _ Hf;have Gf:b < wr.heap.size:=ltq Ff (Hn.trans hb.fr).size;have Hl:(k:Int) < (n2:Int):=by omega
    have Fb:(0:Int)<=(k:Int):=by omega
    have Fe:=Rc.out;have hP:=HP.out;have Wn:=Wr.out;have Vw:¬b=P:=by omega
    have Df:¬w.heap.size=P:=by omega
    simp only at d0 d1;have HD:=hdq hd;have gC:=hdq r0;obtain⟨w8,GG⟩:=nmq ((wr.alloc (.cells #[.string a0,.int .i64 a1,.int .i64 0] 66)).drew );have Gj:Fr NoT wr w8:=by rw[GG];exact((Fr.refl _ _).alloc _).drew
    have Hk:Bk w8 wr.heap.size 66 ([.string a0,.int .i64 a1,.int .i64 0]:List Value).toArray :=by rw[GG];exact Bk.new _ _ _
    have TI:w8.heap.size=wr.heap.size+1:=by rw[GG];exact World.size_alloc _ _
    have Gt:=World.ownsRow.kept (w':=w8) hb.row (row:=none) ⟨Gj.os,Gj.tape,Gj.output,Gj.size,λi hi _=>Gj.block i hi id⟩ (Classical.em _);have Fm:=hdq Gt;have Kf:=hdq Hk;have GD:=hdq Gj;have K8:=hdq GG;have FN:(acc.length+1)*32<=140737488355328:=by have:=gM.out;have:=hb.len;omega
    have Jt:acc.length+1<=9223372036854775807:=by have:=hb.len;omega
    have Ht:=hb.sz;have UF:wc.heap.size<=w8.heap.size:=by omega
    have q8:=(Gj.cell (p:=⟨P,1,none⟩) pl id).trans q1;have f8:=(Gj.frozen (p:=⟨P,1,none⟩) pl id).trans g1;clear hd Hd Hf r0 r1 Gt Hk GG d2;go_wp2_with fail;refine zdR (λW'=>W'.cell? ⟨w.heap.size,1,none⟩=some (.slice (some ⟨b,o,none⟩) n2 ca)/\W'.cell? ⟨b,o+k*3,none⟩=some (.string a0)/\W'.cell? ⟨b,o+k*3+1,none⟩=some (.int .i64 a1)/\W'.cell? ⟨P,1,none⟩=some v) 17 (by kernel_rfl) ⟨y1,d0,d1,q1⟩ (λhHeld=>?_);refine zaq 0 (v:=?_) rfl (by kernel_rfl) (by kernel_rfl) (by kernel_rfl) (by kernel_rfl) (λ_ _ _ h=>h) hHeld (by rfl) ?_ ?_;rotate_left
    ·intro wz Gq
     (try dsimp only at Gq)
     go_simp;try with_reducible rfl
    try simp only[putsL]
    refine zaq 1 (v:=?_) rfl (by kernel_rfl) (by kernel_rfl) (by kernel_rfl) (by kernel_rfl) (λ_ _ _ h=>h) hHeld (by rfl) ?_ ?_;rotate_left
    ·intro wz Gq
     (try dsimp only at Gq)
     go_simp;try with_reducible rfl
    try simp only[putsL]
    refine zaq 2 (v:=?_) rfl (by kernel_rfl) (by kernel_rfl) (by kernel_rfl) (by kernel_rfl) (λ_ _ _ h=>h) hHeld (by rfl) ?_ ?_;rotate_left
    ·intro wz Gq
     (try dsimp only at Gq)
     go_simp;try with_reducible rfl
    try simp only[putsL]
    refine zaq 3 (v:=?_) rfl (by kernel_rfl) (by kernel_rfl) (by kernel_rfl) (by kernel_rfl) (λ_ _ _ h=>h) hHeld (by rfl) ?_ ?_;rotate_left
    ·intro wz Gq
     (try dsimp only at Gq)
     go_simp;try with_reducible rfl
    try simp only[putsL]
    refine zaq 4 (v:=?_) rfl (by kernel_rfl) (by kernel_rfl) (by kernel_rfl) (by kernel_rfl) (λ_ _ _ h=>h) hHeld (by rfl) ?_ ?_;rotate_left
    ·intro wz Gq
     (try dsimp only at Gq)
     go_simp;try with_reducible rfl
    try simp only[putsL]
    refine zaq 5 (v:=?_) rfl (by kernel_rfl) (by kernel_rfl) (by kernel_rfl) (by kernel_rfl) (λ_ _ _ h=>h) hHeld (by rfl) ?_ ?_;rotate_left
    ·intro wz Gq
     (try dsimp only at Gq)
     go_simp;try with_reducible rfl
    try simp only[putsL]
    refine zaq 6 (v:=?_) rfl (by kernel_rfl) (by kernel_rfl) (by kernel_rfl) (by kernel_rfl) (λ_ _ _ h=>h) hHeld (by rfl) ?_ ?_;rotate_left
    ·intro wz Gq
     (try dsimp only at Gq)
     go_simp;try with_reducible rfl
    try simp only[putsL]
    refine zaq 7 (v:=?_) rfl (by kernel_rfl) (by kernel_rfl) (by kernel_rfl) (by kernel_rfl) (λ_ _ _ h=>h) hHeld (by rfl) ?_ ?_;rotate_left
    ·intro wz Gq
     (try dsimp only at Gq)
     go_simp;try with_reducible rfl
    try simp only[putsL]
    refine zaq 8 (v:=?_) rfl (by kernel_rfl) (by kernel_rfl) (by kernel_rfl) (by kernel_rfl) (λ_ _ _ h=>h) hHeld (by rfl) ?_ ?_;rotate_left
    ·intro wz Gq
     (try dsimp only at Gq)
     go_simp;try with_reducible rfl
    try simp only[putsL]
    refine zaq 9 (v:=?_) rfl (by kernel_rfl) (by kernel_rfl) (by kernel_rfl) (by kernel_rfl) (λ_ _ _ h=>h) hHeld (by rfl) ?_ ?_;rotate_left
    ·intro wz Gq
     (try dsimp only at Gq)
     go_simp;try with_reducible rfl
    try simp only[putsL]
    refine zaq 10 (v:=?_) rfl (by kernel_rfl) (by kernel_rfl) (by kernel_rfl) (by kernel_rfl) (λ_ _ _ h=>h) hHeld (by rfl) ?_ ?_;rotate_left
    ·intro wz Gq
     (try dsimp only at Gq)
     go_simp;try with_reducible rfl
    try simp only[putsL]
    refine zaq 11 (v:=?_) rfl (by kernel_rfl) (by kernel_rfl) (by kernel_rfl) (by kernel_rfl) (λ_ _ _ h=>h) hHeld (by rfl) ?_ ?_;rotate_left
    ·intro wz Gq
     (try dsimp only at Gq)
     go_simp;try with_reducible rfl
    try simp only[putsL]
    refine zaq 12 (v:=?_) rfl (by kernel_rfl) (by kernel_rfl) (by kernel_rfl) (by kernel_rfl) (λ_ _ _ h=>h) hHeld (by rfl) ?_ ?_;rotate_left
    ·intro wz Gq
     (try dsimp only at Gq)
     go_simp;try with_reducible rfl
    try simp only[putsL]
    refine zaq 13 (v:=?_) rfl (by kernel_rfl) (by kernel_rfl) (by kernel_rfl) (by kernel_rfl) (λ_ _ _ h=>h) hHeld (by rfl) ?_ ?_;rotate_left
    ·intro wz Gq
     (try dsimp only at Gq)
     go_simp;try with_reducible rfl
    try simp only[putsL]
    refine zaq 14 (v:=?_) rfl (by kernel_rfl) (by kernel_rfl) (by kernel_rfl) (by kernel_rfl) (λ_ _ _ h=>h) hHeld (by rfl) ?_ ?_;rotate_left
    ·intro wz Gq
     (try dsimp only at Gq)
     go_simp;try with_reducible rfl
    try simp only[putsL]
    refine zb8 15 rfl (by kernel_rfl) (λK hK=>?_);go_simp;rw[<-K8.out];refine hK _ _ ⟨(GD.cell (p:=⟨w.heap.size,1,none⟩) yl id).trans y1,(GD.cell (p:=⟨b,o+k*3,none⟩) Gf id).trans d0,(GD.cell (p:=⟨b,o+k*3+1,none⟩) Gf id).trans d1,q8⟩ ?_;clear hK K;refine zb8 16 rfl (by kernel_rfl) (λK hK=>?_);refine step_append_lies _ (by rfl) _ _ _ (by rfl) wc.heap.size 66 iA (.agg #[.string ⟨#[]⟩,.int .i64 0,.int .i64 0]) 3 32 Tryz.underlying23 TH.1 TH.2.1 TH.2.2.1 TH.2.2.2 rfl (by decide) v acc.length cs (by rfl) Fm.out
     ⟨wr.heap.size,0,none⟩ 1 1 _ (by rfl) (by rfl) Kf.newsL (by simp[Value.oneCell']) (by omega) (by unfold maxLen;omega) FN UF _ rfl ?_
    intro gg cap w9 Hg Hh GP L5;have Gm:Fr (λb=>wc.heap.size<=b) wr w9:=GD.any.trans (Fr.grown Hh λg e _=>(Fm.lt g e).1);have GU:some P≠v.ownBlock:=λe=>by have:=(Fm.lt P e.symm).1;omega
    have q9:=(Hh.cell_far ⟨P,1,none⟩ (ltq pl GD.size) GU).trans q8;have f9:=(Hh.frozen_far ⟨P,1,none⟩ (ltq pl GD.size) GU).trans f8;have p9:P < w9.heap.size:=by have:=Gm.size;omega
    have HN:=hdq (hb.step HP.out Wr.out HD.out gC.out K8.out Hg Hh GP);refine hK _ _ ⟨(Gm.cell (p:=⟨w.heap.size,1,none⟩) yl (by show ¬wc.heap.size<=_;simp only;omega)).trans y1,(Gm.cell (p:=⟨b,o+k*3,none⟩) Gf (by show ¬wc.heap.size<=_;simp only;omega)).trans d0,(Gm.cell (p:=⟨b,o+k*3+1,none⟩) Gf (by show ¬wc.heap.size<=_;simp only;omega)).trans d1,q9⟩ ?_;clear hK K Hg Hh GP GU;try simp only[putsL]
    refine zde 17 rfl (by kernel_rfl) (by decide) (λK hK=>?_);go_simp;refine hK _ _ ?_;clear hK K;refine zde 18 rfl (by kernel_rfl) (by decide) (λK hK=>?_);go_simp;refine hK _ _ ?_;clear hK K;refine zhj (by kernel_rfl) ?_;go_wp2_with fail;go_roundw;case rel=>exact⟨k+1,by omega,by go_num,_,_,_,HN⟩
    case measure=>simp[intOf];omega
   ·have Hl:¬(k:Int) < (n2:Int):=by omega
    have JK:k=n2:=by omega
    have hle:acc.length=t.arrays.length:=by rw[hb.len,JK,Le.out]
    have heq:acc=t.arrays.map Arr.bare:=by
     rw[<-hb.eq,List.drop_eq_nil_of_le (by rw[<-Le.out];omega)];simp
    obtain⟨A2,c2,hv,Fh⟩:=RowR.slice zbV (sz:=32) hb.row hb.rows (by rw[hb.len,JK];exact gM.out) (P:=λb o=>ArR wr (New wc.heap.size wr) True (t.arrays.map Arr.bare) b o) λg hg hr hc=>by
     rw[<-heq];exact rowA (o:=0) hg hr λj u hj=>by rw[Nat.zero_add];exact hc j u hj
    rw[hle]at hv Fh;have JJ:=hdq (show TpX w1 wr t P A1 c1 A2 c2 A4 c4 (.slice none 0 0) wr [] [] 0 from
     ⟨hb.fr,by rw[<-hv];exact hb.bk,hb.bq.more hb.sz (lrq _),by rw[List.length_map];exact Fh.imp λ_ _ h=>ArR.more (λb hb=>⟨by have:=hb.1;have:=HP.out;have:=Wr.out;omega,hb.2,by have:=hb.1;have:=Wr.out;omega⟩) h,lrq _,World.ownsRow_nil _ _ _ _,rfl,rfl,rfl⟩)
    have YJ:=hdq (show P < wr.heap.size from ltq Wr.out hb.sz);clear hle heq hv Fh;go_wp2_with fail;clear y1 y2 yl q1 g1 pl;obtain⟨wd,Mz⟩:∃wd:World,wd=wr:=⟨_,rfl⟩;rw[<-Mz]at JJ YJ;have kf:=YJ.out;clear hb kf;subst Mz;go_loopw [5] (λi wr=>∃k:Nat,k<=n3/\i= .int .i64 k/\∃(v:Value)(acc:List Prc)(cs:List Value),Hid (TpX w1 wd t P A1 c1 A2 c2 A4 c4 v wr acc cs k)) (λi _=>n3 - (intOf i).toNat);case atStart=>exact⟨0,Nat.zero_le _,rfl,_, [], [],JJ⟩
    case round=>
     clear JJ;obtain⟨k,hk,rfl,v,acc,cs,hb⟩:=hrel;have Hp:=Gv.fr0 hb.fr;have y2:=Hp.cell 2;have yl:=Hp.lt;have q2:=hb.bk.cell 2;have pl:=hb.bk.lt;simp only[getsL]at y2 q2;clear Hp;by_cases Hr:k < n3
     ·obtain⟨x,ar,hd⟩:=zac (show k < t.procs.length from by rw[<-JO.out];exact Hr);obtain⟨b,o,rfl,Hd⟩:=HX.procs.2.2 (by rw[<-JO.out];omega);have Jr:∀b,S b->b < wr.heap.size:=λb Je=>ltq (HS b Je) (Hn.trans hb.fr).size;have Hb:=(PrR.keep ((Hn.trans hb.fr).same λb hb=>⟨HS b hb,id⟩) Hd).drop k;rw[hd.1]at Hb;obtain⟨⟨Hf,_,r0,d0,d3⟩,⟨A5,q5,d1,s5⟩,⟨A6,q6,d2,s6⟩,_⟩:=Hb;have Gf:b < wr.heap.size:=Jr _ Hf;have Hl:(k:Int) < (n3:Int):=by omega
      have Fb:(0:Int)<=(k:Int):=by omega
      obtain⟨l5,GN⟩:=nmq x.params.length;obtain⟨l6,Jc⟩:=nmq x.body.len;obtain⟨xn,UH⟩:=nmq x.nm;obtain⟨xa,TJ⟩:=nmq x.at_;rw[<-GN]at d1;rw[<-Jc]at d2;rw[<-UH]at d0;rw[<-TJ]at d3;obtain⟨wq,Dg⟩:∃y:World,y=wr:=⟨_,rfl⟩;obtain⟨w4,G7⟩:=nmq (wr.alloc (.cells #[.string xn,.slice A5 l5 q5,.slice A6 l6 q6,.int .i64 xa] 68));have GB:Fr NoT wr w4:=by rw[G7];exact(Fr.refl _ _).alloc _
      have Fy:Bk w4 wr.heap.size 68 #[.string xn,.slice A5 l5 q5,.slice A6 l6 q6,.int .i64 xa]:=by rw[G7];exact Bk.new _ _ _
      have g5:=λ(W:World)(hf:Fr NoT wr W)=>zf0 x.params W S Z A5 q5 (λb h=>ltq (Jr b h) hf.size) (s5.imp λ_ _ hx=>VaR.keep (hf.same λb h=>⟨Jr b h,id⟩) hx);have g6:=λ(W:World)(hf:Fr NoT wr W)=>zeA x.body W S Z A6 q6 (λb h=>ltq (Jr b h) hf.size) (s6.imp λ_ _ hx=>StR.keep (hf.same λb h=>⟨Jr b h,id⟩) hx);rw[<-GN]at g5;rw[<-Jc]at g6;have G5:=hdq g5;have G6:=hdq g6;have HD:=hdq hd;have xj:=hdq UH;have GL:=hdq GB;have LU:=hdq G7;have x0:=Fy.cell 0;have x1:=Fy.cell 1;have x2:=Fy.cell 2;have xl:=Fy.lt;simp only[getsL]at x0 x1 x2;have q4:=(GB.cell (p:=⟨P,2,none⟩) pl id).trans q2;have pl4:=ltq pl GB.size;clear hd Hd Hf r0 s5 s6 GN Jc UH TJ GB Fy G7 g5 g6 Jr;go_wp2_with fail;rw[<-LU.out];clear d0 d1 d2 d3 Gf y2 yl;refine zdR (λW'=>W'.cell? ⟨wr.heap.size,0,none⟩=some (.string xn)/\W'.cell? ⟨wr.heap.size,1,none⟩=some (.slice A5 l5 q5)/\W'.cell? ⟨wr.heap.size,2,none⟩=some (.slice A6 l6 q6)/\W'.cell? ⟨P,2,none⟩=some v) 13 (by kernel_rfl) ⟨x0,x1,x2,q4⟩ (λhHeld=>?_);refine zaq 0 (v:=?_) rfl (by kernel_rfl) (by kernel_rfl) (by kernel_rfl) (by kernel_rfl) (λ_ _ _ h=>h) hHeld (by rfl) ?_ ?_;rotate_left
      ·intro wz Gq
       (try dsimp only at Gq)
       go_simp;try with_reducible rfl
      try simp only[putsL]
      refine zaq 1 (v:=?_) rfl (by kernel_rfl) (by kernel_rfl) (by kernel_rfl) (by kernel_rfl) (λ_ _ _ h=>h) hHeld (by rfl) ?_ ?_;rotate_left
      ·intro wz Gq
       (try dsimp only at Gq)
       go_simp;try with_reducible rfl
      try simp only[putsL]
      refine zaq 2 (v:=?_) rfl (by kernel_rfl) (by kernel_rfl) (by kernel_rfl) (by kernel_rfl) (λ_ _ _ h=>h) hHeld (by rfl) ?_ ?_;rotate_left
      ·intro wz Gq
       (try dsimp only at Gq)
       go_simp;try with_reducible rfl
      try simp only[putsL]
      refine zaq 3 (v:=?_) rfl (by kernel_rfl) (by kernel_rfl) (by kernel_rfl) (by kernel_rfl) (λ_ _ _ h=>h) hHeld (by rfl) ?_ ?_;rotate_left
      ·intro wz Gq
       (try dsimp only at Gq)
       go_simp;try with_reducible rfl
      try simp only[putsL]
      refine zaq 4 (v:=?_) rfl (by kernel_rfl) (by kernel_rfl) (by kernel_rfl) (by kernel_rfl) (λ_ _ _ h=>h) hHeld (by rfl) ?_ ?_;rotate_left
      ·intro wz Gq
       (try dsimp only at Gq)
       go_simp;try with_reducible rfl
      try simp only[putsL]
      refine zaq 5 (v:=?_) rfl (by kernel_rfl) (by kernel_rfl) (by kernel_rfl) (by kernel_rfl) (λ_ _ _ h=>h) hHeld (by rfl) ?_ ?_;rotate_left
      ·intro wz Gq
       (try dsimp only at Gq)
       go_simp;try with_reducible rfl
      try simp only[putsL]
      refine zaq 7 (v:=?_) rfl (by kernel_rfl) (by kernel_rfl) (by kernel_rfl) (by kernel_rfl) (λ_ _ _ h=>h) hHeld (by rfl) ?_ ?_;rotate_left
      ·intro wz Gq
       (try dsimp only at Gq)
       go_simp;try with_reducible rfl
      try simp only[putsL]
      refine zaq 8 (v:=?_) rfl (by kernel_rfl) (by kernel_rfl) (by kernel_rfl) (by kernel_rfl) (λ_ _ _ h=>h) hHeld (by rfl) ?_ ?_;rotate_left
      ·intro wz Gq
       (try dsimp only at Gq)
       go_simp;try with_reducible rfl
      try simp only[putsL]
      refine zb8 6 rfl (by kernel_rfl) (λK hK=>?_);go_simp;go_at_call 24;refine(G5 w4.drew (GL.drew)).mono ?_;rintro _ w5 ⟨B1,e1,rfl,t1,Hs⟩;have PH:Fr NoT w4 w5:=(Fr.refl NoT w4).drew.trans Hs;try dsimp only
      refine hK _ _ ⟨(PH.cell (p:=⟨wr.heap.size,0,none⟩) xl id).trans x0,(PH.cell (p:=⟨wr.heap.size,1,none⟩) xl id).trans x1,(PH.cell (p:=⟨wr.heap.size,2,none⟩) xl id).trans x2,(PH.cell (p:=⟨P,2,none⟩) pl4 id).trans q4⟩ ?_;clear hK K;try simp only[putsL]
      refine zb8 9 rfl (by kernel_rfl) (λK hK=>?_);go_simp;go_at_call 25;refine(G6 w5 (GL.trans PH)).mono ?_;rintro _ w7 ⟨B2,e2,rfl,t2,Gw⟩;have KQ:=Gw;have La:Fr NoT w4 w7:=PH.trans Gw;have M5:Fr NoT wr w7:=GL.trans La;have q7:=(La.cell (p:=⟨P,2,none⟩) pl4 id).trans q4;have pl7:P < w7.heap.size:=ltq pl4 La.size;try dsimp only
      refine hK _ _ ⟨(La.cell (p:=⟨wr.heap.size,0,none⟩) xl id).trans x0,(La.cell (p:=⟨wr.heap.size,1,none⟩) xl id).trans x1,(La.cell (p:=⟨wr.heap.size,2,none⟩) xl id).trans x2,q7⟩ (?_);clear hK K;try simp only[putsL]
      have hHeld:=(show w7.cell? ⟨wr.heap.size,0,none⟩=some (.string xn)/\w7.cell? ⟨wr.heap.size,1,none⟩=some (.slice A5 l5 q5)/\w7.cell? ⟨wr.heap.size,2,none⟩=some (.slice A6 l6 q6)/\w7.cell? ⟨P,2,none⟩=some v from⟨(La.cell (p:=⟨wr.heap.size,0,none⟩) xl id).trans x0,(La.cell (p:=⟨wr.heap.size,1,none⟩) xl id).trans x1,(La.cell (p:=⟨wr.heap.size,2,none⟩) xl id).trans x2,q7⟩);obtain⟨m5,PI⟩:=nmq x.params.length;obtain⟨m6,Qy⟩:=nmq x.body.bare.len;rw[<-PI,<-Qy];have Rd:=hdq PI;have Ws:=hdq Qy;clear PI Qy;refine zaq 10 (v:=?_) rfl (by kernel_rfl) (by kernel_rfl) (by kernel_rfl) (by kernel_rfl) (λ_ _ _ h=>h) hHeld (by rfl) ?_ ?_;rotate_left
      ·intro wz Gq
       (try dsimp only at Gq)
       go_simp;try with_reducible rfl
      try simp only[putsL]
      obtain⟨w8,GG⟩:=nmq (w7.alloc (.cells #[.string xn,.slice B1 m5 e1,.slice B2 m6 e2,.int .i64 0] 68));have L6:Fr NoT w7 w8:=by rw[GG];exact(Fr.refl _ _).alloc _
      have NP:Fr NoT wr w8:=M5.trans L6;have Hk:Bk w8 w7.heap.size 68 ([.string xn,.slice B1 m5 e1,.slice B2 m6 e2,.int .i64 0]:List Value).toArray :=by rw[GG];exact Bk.new _ _ _
      have Gt:=World.ownsRow.kept (w':=w8) hb.row (row:=none) ⟨NP.os,NP.tape,NP.output,NP.size,λi hi _=>NP.block i hi id⟩ (Classical.em _);have Fm:=hdq Gt;have Kf:=hdq Hk;have xk:=hdq (show SlR (λb o=>VaR w8 (λb=>wr.heap.size<=b/\b < w8.heap.size) True (x.params.map Va.bare) b o) (x.params.map Va.bare).length 24 B1 e1 from t1.imp λ_ _ h=>VaR.more (λb hb=>⟨leq9 GL.drew.size hb.1,ltq hb.2 (KQ.trans L6).size⟩) (VaR.keep ((KQ.trans L6).same λb hb=>⟨hb.2,id⟩) h));have Tm:=hdq (show SlR (λb o=>StR w8 (λb=>wr.heap.size<=b/\b < w8.heap.size) True x.body.bare b o) x.body.bare.len 128 B2 e2 from t2.imp λ_ _ h=>StR.more (λb hb=>⟨leq9 (GL.trans PH).size hb.1,ltq hb.2 L6.size⟩) (StR.keep (L6.same λb hb=>⟨hb.2,id⟩) h));have kg:=hdq NP;have FN:(acc.length+1)*72<=140737488355328:=by have:=yg.out;have:=hb.len;omega
      have Jt:acc.length+1<=9223372036854775807:=by have:=hb.len;omega
      have UF:wd.heap.size<=w8.heap.size:=by have:=hb.sz;have:=NP.size;omega
      have q8:=(L6.cell (p:=⟨P,2,none⟩) pl7 id).trans q7;have f8:w8.frozen? ⟨P,2,none⟩=false:=(NP.frozen (p:=⟨P,2,none⟩) pl id).trans (hb.bk.frozen 2);have pl8:P < w8.heap.size:=ltq pl7 L6.size;have K8:=hdq GG;have YK:=(show w8.cell? ⟨wr.heap.size,0,none⟩=some (.string xn)/\w8.cell? ⟨wr.heap.size,1,none⟩=some (.slice A5 l5 q5)/\w8.cell? ⟨wr.heap.size,2,none⟩=some (.slice A6 l6 q6)/\w8.cell? ⟨P,2,none⟩=some v from⟨((La.trans L6).cell (p:=⟨wr.heap.size,0,none⟩) xl id).trans x0,((La.trans L6).cell (p:=⟨wr.heap.size,1,none⟩) xl id).trans x1,((La.trans L6).cell (p:=⟨wr.heap.size,2,none⟩) xl id).trans x2,q8⟩);have xl8:wr.heap.size < w8.heap.size:=ltq xl (La.trans L6).size;clear t1 t2 Gt Hk GG hHeld;refine zb8 11 rfl (by kernel_rfl) (λK hK=>?_);go_simp;rw[<-K8.out];refine hK _ _ YK ?_;clear hK K;try simp only[putsL]
      refine zb8 12 rfl (by kernel_rfl) (λK hK=>?_);refine step_append_lies _ (by rfl) _ _ _ (by rfl) wd.heap.size 68 iP (.agg #[.string ⟨#[]⟩,.slice none 0 0,.slice none 0 0,.int .i64 0]) 4 72 Tryz.underlying24 gL.1 gL.2.1 gL.2.2.1 gL.2.2.2 rfl (by decide) v acc.length cs (by rfl) Fm.out
       ⟨w7.heap.size,0,none⟩ 1 1 _ (by rfl) (by rfl) Kf.newsL (by simp[Value.oneCell']) (by omega) (by unfold maxLen;omega) FN UF _ rfl ?_
      intro gg cap w9 Hg Hh GP L5;have Gm:Fr (λb=>v.ownBlock=some b) w8 w9:=Fr.grown Hh λg e _=>e;have GU:some P≠v.ownBlock:=λe=>by have:=(Fm.lt P e.symm).1;have:=YJ.out;omega
      have RF:¬v.ownBlock=some wr.heap.size:=λe=>by have:=(hb.row.lt _ e).2;omega
      have q9:=(Hh.cell_far ⟨P,2,none⟩ pl8 GU).trans q8;have f9:=(Hh.frozen_far ⟨P,2,none⟩ pl8 GU).trans f8;have p9:P < w9.heap.size:=by have:=Gm.size;omega
      have HN:=hdq (hb.step HP.out YJ.out HD.out kg.out (zs:= [.string xn,.slice B1 m5 e1,.slice B2 m6 e2,.int .i64 0]) (by rw[xj.out,Rd.out,Ws.out,List.length_map]) xk.out Tm.out Hg Hh GP);refine hK _ _ ⟨(Gm.cell (p:=⟨wr.heap.size,0,none⟩) xl8 RF).trans YK.1,(Gm.cell (p:=⟨wr.heap.size,1,none⟩) xl8 RF).trans YK.2.1,(Gm.cell (p:=⟨wr.heap.size,2,none⟩) xl8 RF).trans YK.2.2.1,q9⟩ ?_;clear hK K Hg Hh GP GU RF YK;try simp only[putsL]
      refine zde 13 rfl (by kernel_rfl) (by decide) (λK hK=>?_);go_simp;refine hK _ _ ?_;clear hK K;refine zde 14 rfl (by kernel_rfl) (by decide) (λK hK=>?_);go_simp;refine hK _ _ ?_;clear hK K;refine zhj (by kernel_rfl) ?_;go_wp2_with fail;go_roundw;case rel=>exact⟨k+1,by omega,by go_num,_,_,_,HN⟩
      case measure=>simp[intOf];omega
     ·have Hl:¬(k:Int) < (n3:Int):=by omega
      have JK:k=n3:=by omega
      have hle:acc.length=t.procs.length:=by rw[hb.len,JK,JO.out]
      have heq:acc=t.procs.map Prc.bare:=by
       rw[<-hb.eq,List.drop_eq_nil_of_le (by rw[<-JO.out];omega)];simp
      obtain⟨A3,c3,hv,Fh⟩:=RowR.slice zdw (sz:=72) hb.row hb.rows (by rw[hb.len,JK];exact yg.out) (P:=λb o=>PrR wr (New wd.heap.size wr) True (t.procs.map Prc.bare) b o) λg hg hr hc=>by
       rw[<-heq];exact rowP (o:=0) hg hr λj u hj=>by rw[Nat.zero_add];exact hc j u hj
      rw[hle]at hv Fh;have L4:=hb.bk;rw[hv]at L4;have RG:=FX.fr0 hb.fr;obtain⟨wf,Fc⟩:=nmq ((((wr.setCell ⟨w.heap.size+1,0,none⟩ (.slice A1 t.vars.length c1)).setCell ⟨w.heap.size+1,1,none⟩ (.slice A2 t.arrays.length c2)).setCell ⟨w.heap.size+1,2,none⟩ (.slice A3 t.procs.length c3)).setCell ⟨w.heap.size+1,3,none⟩ (.slice A4 t.main.bare.len c4));have kh:Fr (λb=>b=w.heap.size+1) wr wf:=by rw[Fc];exact Fr.own (Fr.own (Fr.own (Fr.own (Fr.refl _ _) _ _) _ _) _ _) _ _
      have yh:Bk wf (w.heap.size+1) 27 #[.slice A1 t.vars.length c1,.slice A2 t.arrays.length c2,.slice A3 t.procs.length c3,.slice A4 t.main.bare.len c4]:=by
       have:=(((RG.set_ 0 (.slice A1 t.vars.length c1)).set_ 1 (.slice A2 t.arrays.length c2)).set_ 2 (.slice A3 t.procs.length c3)).set_ 3 (.slice A4 t.main.bare.len c4);rw[Fc];simpa using this
      have Gh:=Rc.out;have YL:SameS (λb=>w1.heap.size<=b/\b < wr.heap.size) wr wf:=kh.same λb hb=>⟨hb.2,by have:=hb.1;intro e;have e:b=w.heap.size+1:=e;omega⟩;have jY:=hb.bq.up;have TK:∀b,NewP w1.heap.size wd.heap.size P b->(w1.heap.size<=b/\b < wr.heap.size):=λb hb=>⟨hb.1,by have:=hb.2.1;omega⟩;have RH:∀b,(w1.heap.size<=b/\b < wr.heap.size)->New w.heap.size wf b:=λb hb=>⟨by have:=hb.1;omega,ltq hb.2 kh.size⟩;have Ht:=hb.sz;have JT:w1.heap.size<=wd.heap.size:=by have:=HP.out;have:=YJ.out;omega
      have xm:=hdq (show TrR wf (New w.heap.size wf) True t.bare A1 A2 A3 A4 c1 c2 c3 c4 from
       ⟨hb.bq.vars.imp λ_ _ h=>VaR.more RH (VaR.keep YL (VaR.more TK h)),hb.ba.imp λ_ _ h=>ArR.more RH (ArR.keep YL (ArR.more TK h)),
        by rw[show t.bare.procs.length=t.procs.length from by simp[Tre.bare]];exact Fh.imp λ_ _ h=>PrR.more RH (PrR.keep YL (PrR.more (λb hb=>⟨leq9 JT hb.1,hb.2⟩) h)),hb.bq.main.imp λ_ _ h=>StR.more RH (StR.keep YL (StR.more TK h))⟩)
      have PD:=hdq (show Fr NoT w wf from by rw[Fc];exact Fr.high (Fr.high (Fr.high (Fr.high (Hn.trans hb.fr) (by omega) _ _) (by omega) _ _) (by omega) _ _) (by omega) _ _);have p0:=L4.cell 0;have p1:=L4.cell 1;have p2:=L4.cell 2;have p3:=L4.cell 3;have z0:=RG.cell 0;have z1:=RG.cell 1;have z2:=RG.cell 2;have z3:=RG.cell 3;have f0:=RG.frozen 0;have f1:=RG.frozen 1;have f2:=RG.frozen 2;have f3:=RG.frozen 3;have zl:=RG.lt;simp only[getsL]at p0 p1 p2 p3 z0 z1 z2 z3;have KR:=hdq yh;have LA:=hdq Fc;clear hle heq hv Fh L4 RG Fc kh yh Gh YL jY TK RH Ht JT q2;go_wp2_with fail;rw[<-LA.out];refine bodyPost_ret (results_cell_row (p:=2) (ty:=27) rfl _ _ (w.heap.size+1) 27 _ (0,0) _ rfl KR.out Tryz.underlying27 rfl znj) rfl ⟨A1,A2,A3,A4,c1,c2,c3,c4,?_,xm.out,PD.out⟩;unfold trV;simp[Tre.bare]
