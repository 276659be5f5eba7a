/-
  Plain laws of inlining: no calls are left; how many statements there are; new names are apart. No walk.
-/
import Derived.Test.YtfcegaklbicmfaaGreatDoorJnCl
import Derived.Test.YtfcegaklbicmfaaGreatDoorLxNum
import Derived.Lib.ItoaLen
import Derived.Test.YtfcegaklbicmfaaGreatDoorJnInS
import Derived.Test.YtfcegaklbicmfaaGreatDoorJnPs
set_option linter.unusedVariables false
set_option linter.unusedSimpArgs false
namespace Go.Proofs.YtfcegaklbicmfaaGreatDoor
open Go.RowKit Go.Shelf Go.Maps

def cntS : Sts → Nat
 | .nil => 0
 | .cons _ _ _ _ body els _ r => 1 + cntS body + cntS els + cntS r
def anyS : Sts → Bool
 | .nil => false
 | .cons k _ _ _ body els _ r => anyS body || anyS els || k == 9 || anyS r
/-! ### names -/
def dotF (b : ByteArray) : Prop := (46 : UInt8) ∉ b.data.toList
theorem split_dot : ∀ {l l' r r' : List UInt8}, (46 : UInt8) ∉ l → (46 : UInt8) ∉ l' → l ++ 46 :: r = l' ++ 46 :: r' → l = l' ∧ r = r'
 | [], [], r, r', _, _, h => ⟨rfl, by simpa using h⟩
 | [], x :: l', r, r', _, h', h => by
  simp only [List.nil_append, List.cons_append, List.cons.injEq] at h
  exact absurd h.1 (fun e => h' (by simp [← e]))
 | x :: l, [], r, r', h', _, h => by
  simp only [List.nil_append, List.cons_append, List.cons.injEq] at h
  exact absurd h.1 (fun e => h' (by simp [e]))
 | x :: l, y :: l', r, r', hl, hl', h => by
  simp only [List.cons_append, List.cons.injEq] at h
  have := split_dot (l := l) (l' := l') (fun m => hl (by simp [m])) (fun m => hl' (by simp [m])) h.2
  exact ⟨by rw [h.1, this.1], this.2⟩
theorem digits_dig (u : Nat) : allDig (Lib.decDigits u) := by
 induction u using Nat.strongRecOn with
 | _ u ih =>
  rw [Lib.decDigits]
  split
  ·intro b hb
   simp only [List.mem_singleton] at hb
   subst hb
   rw [isDig_iff]
   have : (UInt8.ofNat (48 + u)).toNat = 48 + u := by simp; omega
   omega
  ·intro b hb
   rcases List.mem_append.1 hb with hb | hb
   ·exact ih (u / 10) (by omega) b hb
   ·simp only [List.mem_singleton] at hb
    subst hb
    rw [isDig_iff]
    have : (UInt8.ofNat (48 + u % 10)).toNat = 48 + u % 10 := by simp; omega
    omega
theorem digits_val (u : Nat) : decV (Lib.decDigits u) = u := by
 induction u using Nat.strongRecOn with
 | _ u ih =>
  rw [Lib.decDigits]
  split
  ·have : (UInt8.ofNat (48 + u)).toNat = 48 + u := by simp; omega
   simp only [decV_A, decA_cons, this]
   simp [decA]
  ·have : (UInt8.ofNat (48 + u % 10)).toNat = 48 + u % 10 := by simp; omega
   have h := ih (u / 10) (by omega)
   rw [decV_A] at h ⊢
   rw [decA_split, h, this]
   omega
theorem itoa_dotF (c : Nat) : (46 : UInt8) ∉ Lib.itoa (c : Int) := by
 rw [Lib.itoa_nonneg]
 intro h
 have := (isDig_iff _).1 (digits_dig c _ h)
 have h6 : (46 : UInt8).toNat = 46 := by decide
 omega
theorem itoa_inj {c d : Nat} (h : Lib.itoa (c : Int) = Lib.itoa (d : Int)) : c = d := by
 rw [Lib.itoa_nonneg, Lib.itoa_nonneg] at h
 rw [← digits_val c, h, digits_val]
theorem parN_list (p : ByteArray) (c : Nat) (v : ByteArray) : (parN p c v).data.toList = p.data.toList ++ 46 :: (Lib.itoa (c : Int) ++ 46 :: v.data.toList) := by
 simp [parN, dotB, ByteArray.data_append]
theorem parN_inj {p q : ByteArray} {c d : Nat} {u v : ByteArray} (hp : dotF p) (hq : dotF q) (h : (parN p c u).data.toList = (parN q d v).data.toList) : p.data.toList = q.data.toList ∧ c = d ∧ u.data.toList = v.data.toList := by
 rw [parN_list, parN_list] at h
 obtain ⟨h1, h2⟩ := split_dot hp hq h
 obtain ⟨h3, h4⟩ := split_dot (itoa_dotF c) (itoa_dotF d) h2
 exact ⟨h1, itoa_inj h3, h4⟩
theorem runB_each {p : UInt8 → Bool} : ∀ {l : List UInt8}, runB p l = l.length → ∀ b ∈ l, p b = true
 | [], _, b, hb => by simp at hb
 | x :: r, h, b, hb => by
  unfold runB at h
  by_cases hx : p x = true
  ·rw [List.takeWhile_cons_of_pos hx] at h
   rcases List.mem_cons.1 hb with rfl | hb
   ·exact hx
   ·exact runB_each (l := r) (by unfold runB; simpa using h) b hb
  ·rw [List.takeWhile_cons_of_neg hx] at h
   simp at h
theorem name_dotF {b : ByteArray} (h : nameB b.data.toList = true) : dotF b := fun hm => by
 unfold nameB at h
 simp only [Bool.and_eq_true, beq_iff_eq] at h
 have := runB_each h.1.1.1.1 _ hm
 simp [isWd, isLet, isDig] at this
structure NewsOk (a b : Nat) (news : List Va) : Prop where
 mem : ∀ v ∈ news, ∃ (x u : ByteArray) (c : Nat), a < c ∧ c ≤ b ∧ dotF x ∧ v.nm = parN x c u ∧ x.size ≤ 16 ∧ u.size ≤ 16
 apart : (nmV news).Nodup
theorem NewsOk.nil (a b : Nat) : NewsOk a b [] := ⟨by simp, by simp [nmV]⟩
theorem NewsOk.app {a b c : Nat} {l m : List Va} (hab : a ≤ b) (hbc : b ≤ c) (hl : NewsOk a b l) (hm : NewsOk b c m) : NewsOk a c (l ++ m) := by
 refine ⟨fun v hv => ?_, ?_⟩
 ·rcases List.mem_append.1 hv with hv | hv
  ·obtain ⟨x, u, d, h1, h2, h3⟩ := hl.mem v hv
   exact ⟨x, u, d, h1, by omega, h3⟩
  ·obtain ⟨x, u, d, h1, h2, h3⟩ := hm.mem v hv
   exact ⟨x, u, d, by omega, h2, h3⟩
 ·unfold nmV
  rw [List.map_append, List.nodup_append]
  refine ⟨hl.apart, hm.apart, fun y hy z hz e => ?_⟩
  obtain ⟨v, hv, rfl⟩ := List.mem_map.1 hy
  obtain ⟨v', hv', rfl⟩ := List.mem_map.1 hz
  obtain ⟨x, u, d, h1, h2, h3, h4, _⟩ := hl.mem v hv
  obtain ⟨x', u', d', h1', h2', h3', h4', _⟩ := hm.mem v' hv'
  rw [h4, h4'] at e
  have := (parN_inj h3 h3' e).2.1
  omega
def NewsP (s s' : Ist) : Prop := s.calls ≤ s'.calls ∧ s'.calls + s.many ≤ s.calls + s'.many ∧ ∃ news, s'.vars = s.vars ++ news ∧ NewsOk s.calls s'.calls news
theorem NewsP.refl (s : Ist) : NewsP s s := ⟨Nat.le_refl _, Nat.le_refl _, [], by simp, NewsOk.nil _ _⟩
theorem NewsP.trans {a b c : Ist} (h : NewsP a b) (k : NewsP b c) : NewsP a c := by
 obtain ⟨h1, hm1, l, h2, h3⟩ := h
 obtain ⟨k1, km1, m, k2, k3⟩ := k
 exact ⟨Nat.le_trans h1 k1, by omega, l ++ m, by rw [k2, h2, List.append_assoc], h3.app h1 k1 k3⟩
theorem inlS_news {call : ByteArray → Exs → Nms → Int → Ist → Sts × Ist} (hc : ∀ nm args n at_ s, NewsP s (call nm args n at_ s).2) : ∀ (xs : Sts) (n : Nms) (s : Ist), NewsP s (inlS call xs n s).2
 | .nil, n, s => NewsP.refl s
 | .cons k nm args cond body els at_ r, n, s => by
  unfold inlS
  split
  ·exact NewsP.refl s
  split
  ·exact (hc _ _ _ _ _).trans (inlS_news hc r n _)
  ·have a := inlS_news hc body n ⟨s.calls, s.vars, s.many + 1⟩
   have a' : NewsP s (inlS call body n ⟨s.calls, s.vars, s.many + 1⟩).2 := ⟨a.1, by have := a.2.1; simp only at this; omega, a.2.2⟩
   exact (a'.trans (inlS_news hc els n _)).trans (inlS_news hc r n _)
def ProcsOk (procs : List UInt8 → Option Prc) : Prop := ∀ y x, procs y = some x → dotF x.nm ∧ (nmV x.params).Nodup ∧ x.nm.size ≤ 16 ∧ ∀ v ∈ x.params, v.nm.size ≤ 16
theorem callN_news {procs : List UInt8 → Option Prc} (hp : ProcsOk procs) {stm : Sts → Nms → Ist → Sts × Ist} (hs : ∀ xs n s, NewsP s (stm xs n s).2) (nm : ByteArray) (args : Exs) (n : Nms) (at_ : Int) (s : Ist) : NewsP s (callN procs stm nm args n at_ s).2 := by
 unfold callN
 cases e : procs nm.data.toList with
 | none => exact NewsP.refl s
 | some x =>
  obtain ⟨h1, h2, hz1, hz2⟩ := hp _ _ e
  have h3 := hs x.body (ownN x.nm (s.calls + 1) x.params fun _ => none) ⟨s.calls + 1, s.vars ++ x.params.map (fun v => ⟨parN x.nm (s.calls + 1) v.nm, v.at_⟩), s.many + (x.params.length + 1)⟩
  refine NewsP.trans ?_ h3
  refine ⟨Nat.le_succ _, by simp only; omega, _, rfl, ⟨fun v hv => ?_, ?_⟩⟩
  ·obtain ⟨u, hu, rfl⟩ := List.mem_map.1 hv
   exact ⟨x.nm, u.nm, s.calls + 1, Nat.lt_succ_self _, Nat.le_refl _, h1, rfl, hz1, hz2 u hu⟩
  ·unfold nmV at h2 ⊢
   rw [List.map_map]
   rw [List.nodup_iff_pairwise_ne, List.pairwise_map] at h2 ⊢
   exact h2.imp fun {u v} huv e => huv (parN_inj h1 h1 e).2.2
theorem inlF_news {procs : List UInt8 → Option Prc} (hp : ProcsOk procs) : ∀ (f : Nat) (xs : Sts) (n : Nms) (s : Ist), NewsP s (inlF procs f xs n s).2
 | 0, xs, n, s => inlS_news (fun _ _ _ _ s => NewsP.refl s) xs n s
 | f + 1, xs, n, s => inlS_news (callN_news hp (inlF_news hp f)) xs n s
theorem okPs'_each : ∀ {xs : List Prc} {kn : Kn}, okPs' xs kn → ∀ x ∈ xs, (nmV x.params).Nodup
 | [], _, _, _, h => by simp at h
 | p :: r, kn, ⟨⟨_, h2, _⟩, h4⟩, x, hx => by
  rcases List.mem_cons.1 hx with rfl | hx
  ·exact (freshL_iff.1 h2).2
  ·exact okPs'_each h4 x hx
theorem procs_ok {t : Tre} (h : OkT t) : ProcsOk (procsOf t.procs) := fun y x e => by
 obtain ⟨hx, _⟩ := procsOf_in e
 have ht := h.tree
 unfold okTr okPs allPr at ht
 simp only [Bool.and_eq_true, List.all_eq_true] at ht
 have hs : ∀ {b : ByteArray}, nameB b.data.toList = true → b.size ≤ 16 := fun {b} h => by
  unfold nameB at h
  simp only [Bool.and_eq_true, decide_eq_true_eq, beq_iff_eq] at h
  have h1 := h.1.1.1.1
  have h2 := h.1.1.2
  rw [size_len] at h1
  omega
 exact ⟨name_dotF (ht.2 x hx).1.1, okPs'_each h.each x hx, hs (ht.2 x hx).1.1, fun v hv => hs (by have := (ht.2 x hx).1.2; unfold okVs allVa at this; simp only [List.all_eq_true] at this; exact this v hv)⟩

open Go.RowKit Go.Shelf

def TruePost (W : World) (e : Ending) (w' : World) : Prop := e = .returned (.bool true) ∧ Below W.heap.size W w'
def tw0 : List UInt8 := [118, 97, 114, 32, 120, 59, 112, 114, 111, 99, 32, 112, 40, 117, 41, 123, 120, 61, 117, 43, 49, 59, 125, 109, 97, 105, 110, 123, 99, 97, 108, 108, 32, 112, 40, 50, 41, 59, 99, 97, 108, 108, 32, 112, 40, 120, 41, 59, 125]
def bX : ByteArray := ⟨#[120]⟩
def bU1 : ByteArray := ⟨#[112, 46, 49, 46, 117]⟩
def bU2 : ByteArray := ⟨#[112, 46, 50, 46, 117]⟩
def tw1 : Tre := ⟨[⟨bX, 4⟩], [], [⟨⟨#[112]⟩, [⟨⟨#[117]⟩, 13⟩], .cons 2 bX (.cons 5 ⟨#[]⟩ 0 (.cons 2 ⟨#[117]⟩ 0 .nil 18 (.cons 1 ⟨#[]⟩ 1 .nil 20 .nil)) 19 .nil) .nil .nil .nil 16 .nil, 11⟩],
 .cons 9 ⟨#[112]⟩ (.cons 1 ⟨#[]⟩ 2 .nil 35 .nil) .nil .nil .nil 28 (.cons 9 ⟨#[112]⟩ (.cons 2 bX 0 .nil 45 .nil) .nil .nil .nil 38 .nil)⟩
theorem tw_parse : parseB tw0 = (tw1, 0, 0) := by kernel_rfl
def tw2 : Tre := ⟨[⟨bX, 4⟩, ⟨bU1, 13⟩, ⟨bU2, 13⟩], [], [],
 .cons 1 ⟨#[]⟩ .nil .nil .nil .nil 28 (.cons 2 bU1 (.cons 1 ⟨#[]⟩ 2 .nil 35 .nil) .nil .nil .nil 28 (.cons 2 bX (.cons 5 ⟨#[]⟩ 0 (.cons 2 bU1 0 .nil 18 (.cons 1 ⟨#[]⟩ 1 .nil 20 .nil)) 19 .nil) .nil .nil .nil 16
  (.cons 1 ⟨#[]⟩ .nil .nil .nil .nil 38 (.cons 2 bU2 (.cons 2 bX 0 .nil 45 .nil) .nil .nil .nil 38 (.cons 2 bX (.cons 5 ⟨#[]⟩ 0 (.cons 2 bU2 0 .nil 18 (.cons 1 ⟨#[]⟩ 1 .nil 20 .nil)) 19 .nil) .nil .nil .nil 16 .nil)))))⟩
theorem tw_inl : inlT tw1 = (tw2, 0) := by kernel_rfl
theorem tw_sz : SzT tw1 := by
 refine ⟨by decide +kernel, by decide +kernel, fun x hx => ?_, ?_⟩
 ·obtain rfl : x = ⟨⟨#[112]⟩, [⟨⟨#[117]⟩, 13⟩], .cons 2 bX (.cons 5 ⟨#[]⟩ 0 (.cons 2 ⟨#[117]⟩ 0 .nil 18 (.cons 1 ⟨#[]⟩ 1 .nil 20 .nil)) 19 .nil) .nil .nil .nil 16 .nil, 11⟩ := List.mem_singleton.1 hx
  refine ⟨by decide, by decide +kernel, ?_⟩
  repeat' first | exact trivial | apply And.intro | (show ByteArray.size _ ≤ _; decide)
 ·show szS tw1.main
  repeat' first | exact trivial | apply And.intro | (show ByteArray.size _ ≤ _; decide)
theorem twice_any (w : World) (he : NameEnv w) : Calls Tryz.prog 11 #[] w (InlP (tw2, 0) w) := by
 obtain ⟨w1, hw1⟩ : ∃ y, y = w.alloc (.cells #[.slice none 0 0, .slice none 0 0, .slice none 0 0, .slice none 0 0] 27) := ⟨_, rfl⟩
 have hf1 : Fr NoT w w1 := by rw [hw1]; exact (Fr.refl _ _).alloc _
 have hk1 : Bk w1 w.heap.size 27 #[.slice none 0 0, .slice none 0 0, .slice none 0 0, .slice none 0 0] := by rw [hw1]; exact Bk.new _ _ _
 have h1 := parse_any ⟨tw0.toArray⟩ (by decide) w1 (he.keep hf1.plain)
 rw [show (⟨tw0.toArray⟩ : ByteArray).data.toList = tw0 from rfl, tw_parse] at h1
 unfold tw0 at h1
 have HW1 := Lib.hid hw1
 have HF1 := Lib.hid hf1
 have HK1 := Lib.hid hk1
 clear hw1 hf1 hk1
 have H1 := Lib.hid (show Calls Tryz.prog 21 _ w1 (fun e w' => ∃ Av Aa Ap Am cv ca cp cm, e = .returned (.tuple #[.agg #[.slice Av 1 cv, .slice Aa 0 ca, .slice Ap 1 cp, .slice Am 2 cm], .int .i64 0, .int .i64 0]) ∧ TrR w' (New w1.heap.size w') False tw1 Av Aa Ap Am cv ca cp cm ∧ Below w1.heap.size w1 w') from h1)
 have HE := Lib.hid he
 clear h1 he
 go_enter Tryz.func11, Tryz.ntmps11
 go_wp2_with fail
 rw [← HW1.out]
 refine H1.out.mono ?_
 rintro _ w2 ⟨Av, Aa, Ap, Am, cv, ca, cp, cm, rfl, hT, hb⟩
 have hf2 : Fr NoT w1 w2 := Fr.below hb
 obtain ⟨w3, hw3⟩ : ∃ y, y = w2.alloc (.cells #[.slice Av 1 cv, .slice Aa 0 ca, .slice Ap 1 cp, .slice Am 2 cm] 27) := ⟨_, rfl⟩
 have hf3 : Fr NoT w2 w3 := by rw [hw3]; exact (Fr.refl _ _).alloc _
 have hf03 : Fr NoT w w3 := (HF1.out.trans hf2).trans hf3
 have h3 := inl_any tw1 w3 (New w1.heap.size w2) False Av Aa Ap Am cv ca cp cm (HE.out.keep hf03.plain).toSp (HE.out.keep hf03.plain).lex.tab (fun b hb => Nat.lt_of_lt_of_le hb.2 hf3.size) tw_sz (hT.keep (hf3.same fun b hb => ⟨hb.2, id⟩))
 rw [tw_inl] at h3
 have H3 := Lib.hid (show Calls Tryz.prog 14 #[.agg #[.slice Av 1 cv, .slice Aa 0 ca, .slice Ap 1 cp, .slice Am 2 cm]] w3 (fun e w' => ∃ Av Aa Ap Am cv ca cp cm, e = .returned (.tuple #[.agg #[.slice Av 3 cv, .slice Aa 0 ca, .slice Ap 0 cp, .slice Am 6 cm], .int .i64 0]) ∧ TrR w' (New w3.heap.size w') False tw2 Av Aa Ap Am cv ca cp cm ∧ Fr NoT w3 w') from h3)
 have HW3 := Lib.hid hw3
 have HF03 := Lib.hid hf03
 have HK3 := Lib.hid ((HK1.out.fr0 hf2).fr0 hf3)
 clear hT hb hf2 hw3 hf3 hf03 h3
 go_wp2_with fail
 rw [← HW3.out]
 go_at_call 14
 refine H3.out.mono ?_
 rintro _ w4 ⟨Bv, Ba, Bp, Bm, dv, da, dp, dm, rfl, hT4, hf4⟩
 have hk4 := HK3.out.fr0 hf4
 have z0 := hk4.frozen 0
 have z1 := hk4.frozen 1
 have z2 := hk4.frozen 2
 have z3 := hk4.frozen 3
 have y0 := hk4.cell 0
 have y1 := hk4.cell 1
 have y2 := hk4.cell 2
 have y3 := hk4.cell 3
 have yl := hk4.lt
 simp only [getsL] at y0 y1 y2 y3
 obtain ⟨wf, hwf⟩ : ∃ y, y = (((w4.setCell ⟨w.heap.size, 0, none⟩ (.slice Bv 3 dv)).setCell ⟨w.heap.size, 1, none⟩ (.slice Ba 0 da)).setCell ⟨w.heap.size, 2, none⟩ (.slice Bp 0 dp)).setCell ⟨w.heap.size, 3, none⟩ (.slice Bm 6 dm) := ⟨_, rfl⟩
 have hff0 : Fr (fun i => i = w.heap.size) w4 wf := by rw [hwf]; exact Fr.own (Fr.own (Fr.own (Fr.own (Fr.refl _ _) _ _) _ _) _ _) _ _
 have hkf : Bk wf w.heap.size 27 #[.slice Bv 3 dv, .slice Ba 0 da, .slice Bp 0 dp, .slice Bm 6 dm] := by
  have := (((hk4.set_ 0 (.slice Bv 3 dv)).set_ 1 (.slice Ba 0 da)).set_ 2 (.slice Bp 0 dp)).set_ 3 (.slice Bm 6 dm)
  rw [hwf]; simpa using this
 have hff : Fr NoT w wf := Fr.thenT (HF03.out.trans hf4) hff0 fun i hi e => by have e : i = w.heap.size := e; omega
 have hz3 : w.heap.size < w3.heap.size := HK3.out.lt
 have hz4 := hf4.size
 have hzf := hff0.size
 have HT4 := Lib.hid (TrR.more (fun b (hb : New w3.heap.size w4 b) => (⟨by have := hb.1; omega, by have := hb.2; omega⟩ : New w.heap.size wf b)) (hT4.keep (hff0.same fun b hb => ⟨hb.2, fun e => by have e : b = w.heap.size := e; have := hb.1; omega⟩)))
 have HWF := Lib.hid hwf
 have HFF := Lib.hid hff
 have HKF := Lib.hid hkf
 clear hT4 hf4 hk4 hwf hff hff0 hkf hz3 hz4 hzf
 go_wp2_with fail
 rw [← HWF.out]
 refine bodyPost_ret (res_cell_tmp (p := 0) (q := 1) (ty := 27) rfl _ _ w.heap.size 27 _ (0, 0) _ rfl HKF.out Tryz.underlying27 rfl sizeTr) rfl ?_
 exact ⟨Bv, Ba, Bp, Bm, dv, da, dp, dm, rfl, HT4.out, HFF.out⟩
theorem bU1_l : bU1.toList = [112, 46, 49, 46, 117] := by kernel_rfl
theorem bU2_l : bU2.toList = [112, 46, 50, 46, 117] := by kernel_rfl
theorem twice_at (w : World) (he : NameEnv w) : Calls Tryz.prog 11 #[] w (fun e w' => ∃ Av Aa Ap Am cv ca cp cm, e = .returned (.tuple #[.agg #[.slice Av 3 cv, .slice Aa 0 ca, .slice Ap 0 cp, .slice Am 6 cm], .int .i64 0]) ∧ TrR w' (New w.heap.size w') False tw2 Av Aa Ap Am cv ca cp cm ∧ Fr NoT w w') := twice_any w he
set_option maxRecDepth 100000 in
set_option maxHeartbeats 1600000 in
theorem ialive_any (w : World) (he : NameEnv w) : Calls Tryz.prog 12 #[] w (TruePost w) := by
 have H1 := Lib.hid (twice_at w he)
 clear he
 go_enter Tryz.func12, Tryz.ntmps12
 go_wp2_with fail
 refine H1.out.mono ?_
 rintro _ w1 ⟨Av, Aa, Ap, Am, cv, ca, cp, cm, rfl, hT, hf⟩
 obtain ⟨b, o, rfl, _, ⟨⟨hb1, hb2⟩, _, _, k1, _⟩, ⟨_, _, _, k2, _⟩, _⟩ := hT.vars.2.2 (by decide)
 have hcv := hT.vars.1
 have hcm := hT.main.1
 have HF := Lib.hid hf
 have q1 := bU1_l
 have q2 := bU2_l
 clear hT H1 hf
 go_wp2_with fail
 go_ret
 exact ⟨rfl, (HF.out.alloc _).plain⟩
end Go.Proofs.YtfcegaklbicmfaaGreatDoor
