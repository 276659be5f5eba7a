/-
  Plain laws of inlining: no calls are left; how many statements there are; new names are apart. No walk.
-/
import Derived.Test.YtfcegaklbicmfaaGreatDoorJnCl
import Derived.Test.YtfcegaklbicmfaaGreatDoorLxNum
import Derived.Lib.ItoaLen
import Derived.Test.YtfcegaklbicmfaaGreatDoorJnInS
import Derived.Test.YtfcegaklbicmfaaGreatDoorJnPs
import Derived.Test.YtfcegaklbicmfaaGreatDoorJnCq
set_option linter.unusedVariables false
set_option linter.unusedSimpArgs false
namespace Go.Proofs.YtfcegaklbicmfaaGreatDoor
open Go.RowKit Go.Shelf Go.Maps

def cntS : Sts → Nat
 | .nil => 0
 | .cons _ _ _ _ body els _ r => 1 + cntS body + cntS els + cntS r
def anyS : Sts → Bool
 | .nil => false
 | .cons k _ _ _ body els _ r => anyS body || anyS els || k == 9 || anyS r
theorem cntS_app : ∀ (xs ys : Sts), cntS (Sts.app xs ys) = cntS xs + cntS ys
 | .nil, ys => by simp [Sts.app, cntS]
 | .cons _ _ _ _ body els _ r, ys => by simp only [Sts.app, cntS, cntS_app r ys]; omega
theorem anyS_app : ∀ (xs ys : Sts), anyS (Sts.app xs ys) = (anyS xs || anyS ys)
 | .nil, ys => by simp [Sts.app, anyS]
 | .cons _ _ _ _ body els _ r, ys => by simp only [Sts.app, anyS, anyS_app r ys, Bool.or_assoc]
theorem anyS_sets (p : ByteArray) (c : Nat) (n : Nms) (at_ : Int) : ∀ (vs : List Va) (xs : Exs), anyS (setsN p c n at_ vs xs) = false
 | v :: vs, .cons k nm m a b r => by simp [setsN, anyS, anyS_sets p c n at_ vs r]
 | v :: vs, .nil => by simp [setsN, anyS]
 | [], _ => by simp [setsN, anyS]
theorem cntS_sets (p : ByteArray) (c : Nat) (n : Nms) (at_ : Int) : ∀ (vs : List Va) (xs : Exs), vs.length = xs.len → cntS (setsN p c n at_ vs xs) = vs.length
 | v :: vs, .cons k nm m a b r, h => by
  have := cntS_sets p c n at_ vs r (by simpa [Exs.len] using h)
  simp only [setsN, cntS, this, List.length_cons]; omega
 | v :: vs, .nil, h => by simp [Exs.len] at h
 | [], _, h => by simp [setsN, cntS]
theorem inlS_none {call : ByteArray → Exs → Nms → Int → Ist → Sts × Ist} (hc : ∀ nm args n at_ s, anyS (call nm args n at_ s).1 = false) : ∀ (xs : Sts) (n : Nms) (s : Ist), anyS (inlS call xs n s).1 = false
 | .nil, n, s => rfl
 | .cons k nm args cond body els at_ r, n, s => by
  unfold inlS
  split
  ·rfl
  split
  ·simp only [anyS_app, hc, inlS_none hc r, Bool.or_self]
  ·rename_i h1 h2
   simp only [anyS, inlS_none hc r, inlS_none hc body, inlS_none hc els, Bool.or_false, Bool.false_or]
   simpa using h2
theorem inlF_none (procs : List UInt8 → Option Prc) : ∀ (f : Nat) (xs : Sts) (n : Nms) (s : Ist), anyS (inlF procs f xs n s).1 = false
 | 0, xs, n, s => inlS_none (fun _ _ _ _ _ => rfl) xs n s
 | f + 1, xs, n, s => inlS_none (fun nm args n at_ s => by
  unfold callN
  cases procs nm.data.toList with
  | none => rfl
  | some x => simp only [anyS_app, inlF_none procs f, anyS, anyS_sets, Bool.or_self, Bool.or_false, beq_eq_false_iff_ne, ne_eq]; decide) xs n s
theorem inlS_count {procs : List UInt8 → Option Prc} {low : Sts → Prop} {call : ByteArray → Exs → Nms → Int → Ist → Sts × Ist} (hc : ∀ (nm : ByteArray) args n at_ s, (∃ x, procs nm.data.toList = some x ∧ x.params.length = args.len ∧ low x.body) → (call nm args n at_ s).2.many = s.many + cntS (call nm args n at_ s).1) :
  ∀ (xs : Sts) (n : Nms) (s : Ist), LvB procs low xs → (inlS call xs n s).2.many = s.many + cntS (inlS call xs n s).1
 | .nil, n, s, _ => rfl
 | .cons k nm args cond body els at_ r, n, s, ⟨h0, h1, h2, h3⟩ => by
  unfold inlS
  split
  ·rfl
  split
  ·rename_i _ h9
   have a := hc nm args n at_ s (h0 h9)
   have b := inlS_count hc r n (call nm args n at_ s).2 h3
   simp only [cntS_app]
   omega
  ·have a := inlS_count hc body n ⟨s.calls, s.vars, s.many + 1⟩ h1
   have b := inlS_count hc els n (inlS call body n ⟨s.calls, s.vars, s.many + 1⟩).2 h2
   have c := inlS_count hc r n (inlS call els n (inlS call body n ⟨s.calls, s.vars, s.many + 1⟩).2).2 h3
   simp only [cntS] at a b c ⊢
   omega
theorem inlF_count (procs : List UInt8 → Option Prc) : ∀ (f : Nat) (xs : Sts) (n : Nms) (s : Ist), Lv procs f xs → (inlF procs f xs n s).2.many = s.many + cntS (inlF procs f xs n s).1
 | 0, xs, n, s, h => inlS_count (procs := procs) (low := fun _ => False) (fun _ _ _ _ _ ⟨_, _, _, h⟩ => h.elim) xs n s h
 | f + 1, xs, n, s, h => inlS_count (procs := procs) (low := Lv procs f) (fun nm args n at_ s ⟨x, e, hl, hlow⟩ => by
  unfold callN
  rw [e]
  have a := inlF_count procs f x.body (ownN x.nm (s.calls + 1) x.params fun _ => none) ⟨s.calls + 1, s.vars ++ x.params.map (fun v => ⟨parN x.nm (s.calls + 1) v.nm, v.at_⟩), s.many + (x.params.length + 1)⟩ hlow
  simp only [cntS_app, cntS, cntS_sets _ _ _ _ _ _ hl] at a ⊢
  omega) xs n s h
/-! ### names -/
def dotF (b : ByteArray) : Prop := (46 : UInt8) ∉ b.data.toList
theorem split_dot : ∀ {l l' r r' : List UInt8}, (46 : UInt8) ∉ l → (46 : UInt8) ∉ l' → l ++ 46 :: r = l' ++ 46 :: r' → l = l' ∧ r = r'
 | [], [], r, r', _, _, h => ⟨rfl, by simpa using h⟩
 | [], x :: l', r, r', _, h', h => by
  simp only [List.nil_append, List.cons_append, List.cons.injEq] at h
  exact absurd h.1 (fun e => h' (by simp [← e]))
 | x :: l, [], r, r', h', _, h => by
  simp only [List.nil_append, List.cons_append, List.cons.injEq] at h
  exact absurd h.1 (fun e => h' (by simp [e]))
 | x :: l, y :: l', r, r', hl, hl', h => by
  simp only [List.cons_append, List.cons.injEq] at h
  have := split_dot (l := l) (l' := l') (fun m => hl (by simp [m])) (fun m => hl' (by simp [m])) h.2
  exact ⟨by rw [h.1, this.1], this.2⟩
theorem digits_dig (u : Nat) : allDig (Lib.decDigits u) := by
 induction u using Nat.strongRecOn with
 | _ u ih =>
  rw [Lib.decDigits]
  split
  ·intro b hb
   simp only [List.mem_singleton] at hb
   subst hb
   rw [isDig_iff]
   have : (UInt8.ofNat (48 + u)).toNat = 48 + u := by simp; omega
   omega
  ·intro b hb
   rcases List.mem_append.1 hb with hb | hb
   ·exact ih (u / 10) (by omega) b hb
   ·simp only [List.mem_singleton] at hb
    subst hb
    rw [isDig_iff]
    have : (UInt8.ofNat (48 + u % 10)).toNat = 48 + u % 10 := by simp; omega
    omega
theorem digits_val (u : Nat) : decV (Lib.decDigits u) = u := by
 induction u using Nat.strongRecOn with
 | _ u ih =>
  rw [Lib.decDigits]
  split
  ·have : (UInt8.ofNat (48 + u)).toNat = 48 + u := by simp; omega
   simp only [decV_A, decA_cons, this]
   simp [decA]
  ·have : (UInt8.ofNat (48 + u % 10)).toNat = 48 + u % 10 := by simp; omega
   have h := ih (u / 10) (by omega)
   rw [decV_A] at h ⊢
   rw [decA_split, h, this]
   omega
theorem itoa_dotF (c : Nat) : (46 : UInt8) ∉ Lib.itoa (c : Int) := by
 rw [Lib.itoa_nonneg]
 intro h
 have := (isDig_iff _).1 (digits_dig c _ h)
 have h6 : (46 : UInt8).toNat = 46 := by decide
 omega
theorem itoa_inj {c d : Nat} (h : Lib.itoa (c : Int) = Lib.itoa (d : Int)) : c = d := by
 rw [Lib.itoa_nonneg, Lib.itoa_nonneg] at h
 rw [← digits_val c, h, digits_val]
theorem parN_list (p : ByteArray) (c : Nat) (v : ByteArray) : (parN p c v).data.toList = p.data.toList ++ 46 :: (Lib.itoa (c : Int) ++ 46 :: v.data.toList) := by
 simp [parN, dotB, ByteArray.data_append]
theorem parN_inj {p q : ByteArray} {c d : Nat} {u v : ByteArray} (hp : dotF p) (hq : dotF q) (h : (parN p c u).data.toList = (parN q d v).data.toList) : p.data.toList = q.data.toList ∧ c = d ∧ u.data.toList = v.data.toList := by
 rw [parN_list, parN_list] at h
 obtain ⟨h1, h2⟩ := split_dot hp hq h
 obtain ⟨h3, h4⟩ := split_dot (itoa_dotF c) (itoa_dotF d) h2
 exact ⟨h1, itoa_inj h3, h4⟩
theorem runB_each {p : UInt8 → Bool} : ∀ {l : List UInt8}, runB p l = l.length → ∀ b ∈ l, p b = true
 | [], _, b, hb => by simp at hb
 | x :: r, h, b, hb => by
  unfold runB at h
  by_cases hx : p x = true
  ·rw [List.takeWhile_cons_of_pos hx] at h
   rcases List.mem_cons.1 hb with rfl | hb
   ·exact hx
   ·exact runB_each (l := r) (by unfold runB; simpa using h) b hb
  ·rw [List.takeWhile_cons_of_neg hx] at h
   simp at h
theorem name_dotF {b : ByteArray} (h : nameB b.data.toList = true) : dotF b := fun hm => by
 unfold nameB at h
 simp only [Bool.and_eq_true, beq_iff_eq] at h
 have := runB_each h.1.1.1.1 _ hm
 simp [isWd, isLet, isDig] at this
theorem parN_noname (p : ByteArray) (c : Nat) (v : ByteArray) : nameB (parN p c v).data.toList = false := by
 cases h : nameB (parN p c v).data.toList with
 | false => rfl
 | true => exact absurd (name_dotF h) (fun hd => hd (by rw [parN_list]; simp))
structure NewsOk (a b : Nat) (news : List Va) : Prop where
 mem : ∀ v ∈ news, ∃ (x u : ByteArray) (c : Nat), a < c ∧ c ≤ b ∧ dotF x ∧ v.nm = parN x c u ∧ x.size ≤ 16 ∧ u.size ≤ 16
 apart : (nmV news).Nodup
theorem NewsOk.nil (a b : Nat) : NewsOk a b [] := ⟨by simp, by simp [nmV]⟩
theorem NewsOk.app {a b c : Nat} {l m : List Va} (hab : a ≤ b) (hbc : b ≤ c) (hl : NewsOk a b l) (hm : NewsOk b c m) : NewsOk a c (l ++ m) := by
 refine ⟨fun v hv => ?_, ?_⟩
 ·rcases List.mem_append.1 hv with hv | hv
  ·obtain ⟨x, u, d, h1, h2, h3⟩ := hl.mem v hv
   exact ⟨x, u, d, h1, by omega, h3⟩
  ·obtain ⟨x, u, d, h1, h2, h3⟩ := hm.mem v hv
   exact ⟨x, u, d, by omega, h2, h3⟩
 ·unfold nmV
  rw [List.map_append, List.nodup_append]
  refine ⟨hl.apart, hm.apart, fun y hy z hz e => ?_⟩
  obtain ⟨v, hv, rfl⟩ := List.mem_map.1 hy
  obtain ⟨v', hv', rfl⟩ := List.mem_map.1 hz
  obtain ⟨x, u, d, h1, h2, h3, h4, _⟩ := hl.mem v hv
  obtain ⟨x', u', d', h1', h2', h3', h4', _⟩ := hm.mem v' hv'
  rw [h4, h4'] at e
  have := (parN_inj h3 h3' e).2.1
  omega
def NewsP (s s' : Ist) : Prop := s.calls ≤ s'.calls ∧ s'.calls + s.many ≤ s.calls + s'.many ∧ ∃ news, s'.vars = s.vars ++ news ∧ NewsOk s.calls s'.calls news
theorem NewsP.refl (s : Ist) : NewsP s s := ⟨Nat.le_refl _, Nat.le_refl _, [], by simp, NewsOk.nil _ _⟩
theorem NewsP.trans {a b c : Ist} (h : NewsP a b) (k : NewsP b c) : NewsP a c := by
 obtain ⟨h1, hm1, l, h2, h3⟩ := h
 obtain ⟨k1, km1, m, k2, k3⟩ := k
 exact ⟨Nat.le_trans h1 k1, by omega, l ++ m, by rw [k2, h2, List.append_assoc], h3.app h1 k1 k3⟩
theorem inlS_news {call : ByteArray → Exs → Nms → Int → Ist → Sts × Ist} (hc : ∀ nm args n at_ s, NewsP s (call nm args n at_ s).2) : ∀ (xs : Sts) (n : Nms) (s : Ist), NewsP s (inlS call xs n s).2
 | .nil, n, s => NewsP.refl s
 | .cons k nm args cond body els at_ r, n, s => by
  unfold inlS
  split
  ·exact NewsP.refl s
  split
  ·exact (hc _ _ _ _ _).trans (inlS_news hc r n _)
  ·have a := inlS_news hc body n ⟨s.calls, s.vars, s.many + 1⟩
   have a' : NewsP s (inlS call body n ⟨s.calls, s.vars, s.many + 1⟩).2 := ⟨a.1, by have := a.2.1; simp only at this; omega, a.2.2⟩
   exact (a'.trans (inlS_news hc els n _)).trans (inlS_news hc r n _)
def ProcsOk (procs : List UInt8 → Option Prc) : Prop := ∀ y x, procs y = some x → dotF x.nm ∧ (nmV x.params).Nodup ∧ x.nm.size ≤ 16 ∧ ∀ v ∈ x.params, v.nm.size ≤ 16
theorem callN_news {procs : List UInt8 → Option Prc} (hp : ProcsOk procs) {stm : Sts → Nms → Ist → Sts × Ist} (hs : ∀ xs n s, NewsP s (stm xs n s).2) (nm : ByteArray) (args : Exs) (n : Nms) (at_ : Int) (s : Ist) : NewsP s (callN procs stm nm args n at_ s).2 := by
 unfold callN
 cases e : procs nm.data.toList with
 | none => exact NewsP.refl s
 | some x =>
  obtain ⟨h1, h2, hz1, hz2⟩ := hp _ _ e
  have h3 := hs x.body (ownN x.nm (s.calls + 1) x.params fun _ => none) ⟨s.calls + 1, s.vars ++ x.params.map (fun v => ⟨parN x.nm (s.calls + 1) v.nm, v.at_⟩), s.many + (x.params.length + 1)⟩
  refine NewsP.trans ?_ h3
  refine ⟨Nat.le_succ _, by simp only; omega, _, rfl, ⟨fun v hv => ?_, ?_⟩⟩
  ·obtain ⟨u, hu, rfl⟩ := List.mem_map.1 hv
   exact ⟨x.nm, u.nm, s.calls + 1, Nat.lt_succ_self _, Nat.le_refl _, h1, rfl, hz1, hz2 u hu⟩
  ·unfold nmV at h2 ⊢
   rw [List.map_map]
   rw [List.nodup_iff_pairwise_ne, List.pairwise_map] at h2 ⊢
   exact h2.imp fun {u v} huv e => huv (parN_inj h1 h1 e).2.2
theorem inlF_news {procs : List UInt8 → Option Prc} (hp : ProcsOk procs) : ∀ (f : Nat) (xs : Sts) (n : Nms) (s : Ist), NewsP s (inlF procs f xs n s).2
 | 0, xs, n, s => inlS_news (fun _ _ _ _ s => NewsP.refl s) xs n s
 | f + 1, xs, n, s => inlS_news (callN_news hp (inlF_news hp f)) xs n s
theorem okPs'_each : ∀ {xs : List Prc} {kn : Kn}, okPs' xs kn → ∀ x ∈ xs, (nmV x.params).Nodup
 | [], _, _, _, h => by simp at h
 | p :: r, kn, ⟨⟨_, h2, _⟩, h4⟩, x, hx => by
  rcases List.mem_cons.1 hx with rfl | hx
  ·exact (freshL_iff.1 h2).2
  ·exact okPs'_each h4 x hx
theorem procs_ok {t : Tre} (h : OkT t) : ProcsOk (procsOf t.procs) := fun y x e => by
 obtain ⟨hx, _⟩ := procsOf_in e
 have ht := h.tree
 unfold okTr okPs allPr at ht
 simp only [Bool.and_eq_true, List.all_eq_true] at ht
 have hs : ∀ {b : ByteArray}, nameB b.data.toList = true → b.size ≤ 16 := fun {b} h => by
  unfold nameB at h
  simp only [Bool.and_eq_true, decide_eq_true_eq, beq_iff_eq] at h
  have h1 := h.1.1.1.1
  have h2 := h.1.1.2
  rw [size_len] at h1
  omega
 exact ⟨name_dotF (ht.2 x hx).1.1, okPs'_each h.each x hx, hs (ht.2 x hx).1.1, fun v hv => hs (by have := (ht.2 x hx).1.2; unfold okVs allVa at this; simp only [List.all_eq_true] at this; exact this v hv)⟩
theorem inl_none {t : Tre} (h : OkT t) (hf : fullB (inlQ t).2 = false) :
  anyS (inlQ t).1 = false ∧ cntS (inlQ t).1 ≤ 256 ∧ (inlQ t).2.vars.length ≤ 32 ∧ ∃ news, (inlQ t).2.vars = t.vars ++ news ∧ (∀ v ∈ news, nameB v.nm.data.toList = false) ∧ (nmV (t.vars ++ news)).Nodup ∧ ∀ v ∈ news, v.nm.size ≤ 64 := by
 have hc := inlF_count (procsOf t.procs) t.procs.length t.main (fun _ => none) ⟨0, t.vars, 0⟩ (main_low h)
 obtain ⟨_, hcm, news, hn, hok⟩ := inlF_news (procs_ok h) t.procs.length t.main (fun _ => none) ⟨0, t.vars, 0⟩
 have hm : (inlQ t).2.many = 0 + cntS (inlQ t).1 := hc
 unfold fullB at hf
 simp only [Bool.or_eq_false_iff, decide_eq_false_iff_not] at hf
 have hno : ∀ v ∈ news, nameB v.nm.data.toList = false := fun v hv => by
  obtain ⟨x, u, c, _, _, _, e, _⟩ := hok.mem v hv
  rw [e]; exact parN_noname _ _ _
 refine ⟨inlF_none _ _ _ _ _, by omega, by omega, news, hn, hno, ?_, fun v hv => ?_⟩
 rotate_left
 ·obtain ⟨x, u, c, _, hc2, _, e, h1, h2⟩ := hok.mem v hv
  have hq : c ≤ 256 := by
   have a1 : (inlQ t).2.calls + 0 ≤ 0 + (inlQ t).2.many := hcm
   have a2 : c ≤ (inlQ t).2.calls := hc2
   omega
  have h3 := Lib.itoa_length_le (c : Int) (by omega) (by omega)
  have h4 : v.nm.size = x.size + (((Lib.itoa (c : Int)).length + (u.size + 1)) + 1) := by
   rw [e, ← size_len, parN_list]
   simp only [List.length_append, List.length_cons, size_len]
  omega
 unfold nmV
 rw [List.map_append, List.nodup_append]
 refine ⟨(freshL_iff.1 h.vars).2, hok.apart, fun y hy z hz e => ?_⟩
 obtain ⟨v, hv, rfl⟩ := List.mem_map.1 hy
 obtain ⟨v', hv', rfl⟩ := List.mem_map.1 hz
 have ht := h.tree
 unfold okTr okVs allVa at ht
 simp only [Bool.and_eq_true, List.all_eq_true] at ht
 have h1 := ht.1.1.1 v hv
 have h2 := hno v' hv'
 rw [e, h2] at h1
 cases h1

open Go.RowKit Go.Shelf

def TruePost (W : World) (e : Ending) (w' : World) : Prop := e = .returned (.bool true) ∧ Below W.heap.size W w'
def tw0 : List UInt8 := [118, 97, 114, 32, 120, 59, 112, 114, 111, 99, 32, 112, 40, 117, 41, 123, 120, 61, 117, 43, 49, 59, 125, 109, 97, 105, 110, 123, 99, 97, 108, 108, 32, 112, 40, 50, 41, 59, 99, 97, 108, 108, 32, 112, 40, 120, 41, 59, 125]
def bX : ByteArray := ⟨#[120]⟩
def bU1 : ByteArray := ⟨#[112, 46, 49, 46, 117]⟩
def bU2 : ByteArray := ⟨#[112, 46, 50, 46, 117]⟩
def tw1 : Tre := ⟨[⟨bX, 4⟩], [], [⟨⟨#[112]⟩, [⟨⟨#[117]⟩, 13⟩], .cons 2 bX (.cons 5 ⟨#[]⟩ 0 (.cons 2 ⟨#[117]⟩ 0 .nil 18 (.cons 1 ⟨#[]⟩ 1 .nil 20 .nil)) 19 .nil) .nil .nil .nil 16 .nil, 11⟩],
 .cons 9 ⟨#[112]⟩ (.cons 1 ⟨#[]⟩ 2 .nil 35 .nil) .nil .nil .nil 28 (.cons 9 ⟨#[112]⟩ (.cons 2 bX 0 .nil 45 .nil) .nil .nil .nil 38 .nil)⟩
theorem tw_parse : parseB tw0 = (tw1, 0, 0) := by kernel_rfl
def tw2 : Tre := ⟨[⟨bX, 4⟩, ⟨bU1, 13⟩, ⟨bU2, 13⟩], [], [],
 .cons 1 ⟨#[]⟩ .nil .nil .nil .nil 28 (.cons 2 bU1 (.cons 1 ⟨#[]⟩ 2 .nil 35 .nil) .nil .nil .nil 28 (.cons 2 bX (.cons 5 ⟨#[]⟩ 0 (.cons 2 bU1 0 .nil 18 (.cons 1 ⟨#[]⟩ 1 .nil 20 .nil)) 19 .nil) .nil .nil .nil 16
  (.cons 1 ⟨#[]⟩ .nil .nil .nil .nil 38 (.cons 2 bU2 (.cons 2 bX 0 .nil 45 .nil) .nil .nil .nil 38 (.cons 2 bX (.cons 5 ⟨#[]⟩ 0 (.cons 2 bU2 0 .nil 18 (.cons 1 ⟨#[]⟩ 1 .nil 20 .nil)) 19 .nil) .nil .nil .nil 16 .nil)))))⟩
theorem tw_inl : inlT tw1 = (tw2, 0) := by kernel_rfl
theorem tw_sz : SzT tw1 := by
 refine ⟨by decide +kernel, by decide +kernel, fun x hx => ?_, ?_⟩
 ·obtain rfl : x = ⟨⟨#[112]⟩, [⟨⟨#[117]⟩, 13⟩], .cons 2 bX (.cons 5 ⟨#[]⟩ 0 (.cons 2 ⟨#[117]⟩ 0 .nil 18 (.cons 1 ⟨#[]⟩ 1 .nil 20 .nil)) 19 .nil) .nil .nil .nil 16 .nil, 11⟩ := List.mem_singleton.1 hx
  refine ⟨by decide, by decide +kernel, ?_⟩
  repeat' first | exact trivial | apply And.intro | (show ByteArray.size _ ≤ _; decide)
 ·show szS tw1.main
  repeat' first | exact trivial | apply And.intro | (show ByteArray.size _ ≤ _; decide)
theorem twice_any (w : World) (he : NameEnv w) : Calls Tryz.prog 11 #[] w (InlP (tw2, 0) w) := by
 obtain ⟨w1, hw1⟩ : ∃ y, y = w.alloc (.cells #[.slice none 0 0, .slice none 0 0, .slice none 0 0, .slice none 0 0] 27) := ⟨_, rfl⟩
 have hf1 : Fr NoT w w1 := by rw [hw1]; exact (Fr.refl _ _).alloc _
 have hk1 : Bk w1 w.heap.size 27 #[.slice none 0 0, .slice none 0 0, .slice none 0 0, .slice none 0 0] := by rw [hw1]; exact Bk.new _ _ _
 have h1 := parse_any ⟨tw0.toArray⟩ (by decide) w1 (he.keep hf1.plain)
 rw [show (⟨tw0.toArray⟩ : ByteArray).data.toList = tw0 from rfl, tw_parse] at h1
 unfold tw0 at h1
 have HW1 := Lib.hid hw1
 have HF1 := Lib.hid hf1
 have HK1 := Lib.hid hk1
 clear hw1 hf1 hk1
 have H1 := Lib.hid (show Calls Tryz.prog 21 _ w1 (fun e w' => ∃ Av Aa Ap Am cv ca cp cm, e = .returned (.tuple #[.agg #[.slice Av 1 cv, .slice Aa 0 ca, .slice Ap 1 cp, .slice Am 2 cm], .int .i64 0, .int .i64 0]) ∧ TrR w' (New w1.heap.size w') False tw1 Av Aa Ap Am cv ca cp cm ∧ Below w1.heap.size w1 w') from h1)
 have HE := Lib.hid he
 clear h1 he
 go_enter Tryz.func11, Tryz.ntmps11
 go_wp2_with fail
 rw [← HW1.out]
 refine H1.out.mono ?_
 rintro _ w2 ⟨Av, Aa, Ap, Am, cv, ca, cp, cm, rfl, hT, hb⟩
 have hf2 : Fr NoT w1 w2 := Fr.below hb
 obtain ⟨w3, hw3⟩ : ∃ y, y = w2.alloc (.cells #[.slice Av 1 cv, .slice Aa 0 ca, .slice Ap 1 cp, .slice Am 2 cm] 27) := ⟨_, rfl⟩
 have hf3 : Fr NoT w2 w3 := by rw [hw3]; exact (Fr.refl _ _).alloc _
 have hf03 : Fr NoT w w3 := (HF1.out.trans hf2).trans hf3
 have h3 := inl_any tw1 w3 (New w1.heap.size w2) False Av Aa Ap Am cv ca cp cm (HE.out.keep hf03.plain).toSp (HE.out.keep hf03.plain).lex.tab (fun b hb => Nat.lt_of_lt_of_le hb.2 hf3.size) tw_sz (hT.keep (hf3.same fun b hb => ⟨hb.2, id⟩))
 rw [tw_inl] at h3
 have H3 := Lib.hid (show Calls Tryz.prog 14 #[.agg #[.slice Av 1 cv, .slice Aa 0 ca, .slice Ap 1 cp, .slice Am 2 cm]] w3 (fun e w' => ∃ Av Aa Ap Am cv ca cp cm, e = .returned (.tuple #[.agg #[.slice Av 3 cv, .slice Aa 0 ca, .slice Ap 0 cp, .slice Am 6 cm], .int .i64 0]) ∧ TrR w' (New w3.heap.size w') False tw2 Av Aa Ap Am cv ca cp cm ∧ Fr NoT w3 w') from h3)
 have HW3 := Lib.hid hw3
 have HF03 := Lib.hid hf03
 have HK3 := Lib.hid ((HK1.out.fr0 hf2).fr0 hf3)
 clear hT hb hf2 hw3 hf3 hf03 h3
 go_wp2_with fail
 rw [← HW3.out]
 go_at_call 14
 refine H3.out.mono ?_
 rintro _ w4 ⟨Bv, Ba, Bp, Bm, dv, da, dp, dm, rfl, hT4, hf4⟩
 have hk4 := HK3.out.fr0 hf4
 have z0 := hk4.frozen 0
 have z1 := hk4.frozen 1
 have z2 := hk4.frozen 2
 have z3 := hk4.frozen 3
 have y0 := hk4.cell 0
 have y1 := hk4.cell 1
 have y2 := hk4.cell 2
 have y3 := hk4.cell 3
 have yl := hk4.lt
 simp only [getsL] at y0 y1 y2 y3
 obtain ⟨wf, hwf⟩ : ∃ y, y = (((w4.setCell ⟨w.heap.size, 0, none⟩ (.slice Bv 3 dv)).setCell ⟨w.heap.size, 1, none⟩ (.slice Ba 0 da)).setCell ⟨w.heap.size, 2, none⟩ (.slice Bp 0 dp)).setCell ⟨w.heap.size, 3, none⟩ (.slice Bm 6 dm) := ⟨_, rfl⟩
 have hff0 : Fr (fun i => i = w.heap.size) w4 wf := by rw [hwf]; exact Fr.own (Fr.own (Fr.own (Fr.own (Fr.refl _ _) _ _) _ _) _ _) _ _
 have hkf : Bk wf w.heap.size 27 #[.slice Bv 3 dv, .slice Ba 0 da, .slice Bp 0 dp, .slice Bm 6 dm] := by
  have := (((hk4.set_ 0 (.slice Bv 3 dv)).set_ 1 (.slice Ba 0 da)).set_ 2 (.slice Bp 0 dp)).set_ 3 (.slice Bm 6 dm)
  rw [hwf]; simpa using this
 have hff : Fr NoT w wf := Fr.thenT (HF03.out.trans hf4) hff0 fun i hi e => by have e : i = w.heap.size := e; omega
 have hz3 : w.heap.size < w3.heap.size := HK3.out.lt
 have hz4 := hf4.size
 have hzf := hff0.size
 have HT4 := Lib.hid (TrR.more (fun b (hb : New w3.heap.size w4 b) => (⟨by have := hb.1; omega, by have := hb.2; omega⟩ : New w.heap.size wf b)) (hT4.keep (hff0.same fun b hb => ⟨hb.2, fun e => by have e : b = w.heap.size := e; have := hb.1; omega⟩)))
 have HWF := Lib.hid hwf
 have HFF := Lib.hid hff
 have HKF := Lib.hid hkf
 clear hT4 hf4 hk4 hwf hff hff0 hkf hz3 hz4 hzf
 go_wp2_with fail
 rw [← HWF.out]
 refine bodyPost_ret (res_cell_tmp (p := 0) (q := 1) (ty := 27) rfl _ _ w.heap.size 27 _ (0, 0) _ rfl HKF.out Tryz.underlying27 rfl sizeTr) rfl ?_
 exact ⟨Bv, Ba, Bp, Bm, dv, da, dp, dm, rfl, HT4.out, HFF.out⟩
theorem bU1_l : bU1.toList = [112, 46, 49, 46, 117] := by kernel_rfl
theorem bU2_l : bU2.toList = [112, 46, 50, 46, 117] := by kernel_rfl
theorem bX_l : bX.toList = [120] := by kernel_rfl
theorem twice_at (w : World) (he : NameEnv w) : Calls Tryz.prog 11 #[] w (fun e w' => ∃ Av Aa Ap Am cv ca cp cm, e = .returned (.tuple #[.agg #[.slice Av 3 cv, .slice Aa 0 ca, .slice Ap 0 cp, .slice Am 6 cm], .int .i64 0]) ∧ TrR w' (New w.heap.size w') False tw2 Av Aa Ap Am cv ca cp cm ∧ Fr NoT w w') := twice_any w he
set_option maxRecDepth 100000 in
set_option maxHeartbeats 1600000 in
theorem ialive_any (w : World) (he : NameEnv w) : Calls Tryz.prog 12 #[] w (TruePost w) := by
 have H1 := Lib.hid (twice_at w he)
 clear he
 go_enter Tryz.func12, Tryz.ntmps12
 go_wp2_with fail
 refine H1.out.mono ?_
 rintro _ w1 ⟨Av, Aa, Ap, Am, cv, ca, cp, cm, rfl, hT, hf⟩
 obtain ⟨b, o, rfl, _, ⟨⟨hb1, hb2⟩, _, _, k1, _⟩, ⟨_, _, _, k2, _⟩, _⟩ := hT.vars.2.2 (by decide)
 have hcv := hT.vars.1
 have hcm := hT.main.1
 have HF := Lib.hid hf
 have q1 := bU1_l
 have q2 := bU2_l
 clear hT H1 hf
 go_wp2_with fail
 go_ret
 exact ⟨rfl, (HF.out.alloc _).plain⟩

theorem cnt_step {xs : Sts} {i : Nat} {a0 a1 a2 a3 a4 a5 a6 ar} (hd : Sts.drop i xs = .cons a0 a1 a2 a3 a4 a5 a6 ar) :
  cntS (Sts.drop i xs) = 1 + cntS a4 + cntS a5 + cntS (Sts.drop (i + 1) xs) ∧ anyS (Sts.drop i xs) = (anyS a4 || anyS a5 || a0 == 9 || anyS (Sts.drop (i + 1) xs)) := by
 rw [Sts.drop_succ i xs hd, hd]
 exact ⟨by simp only [cntS], by simp only [anyS]⟩
def CntP (n : Nat) (b : Bool) (W : World) (e : Ending) (w' : World) : Prop := e = .returned (.tuple #[.int .i64 n, .bool b]) ∧ W = w'
def CntC (xs : Sts) : Prop := ∀ (W : World) (S : Nat → Prop) (Z : Prop) (A : Option Addr) (c : Nat), (∀ x, S x → x < W.heap.size) → cntS xs ≤ 1099511627776 → SlR (fun b o => StR W S Z xs b o) xs.len 128 A c →
 Calls Tryz.prog 15 #[.slice A xs.len c] W (CntP (cntS xs) (anyS xs) W)
def CntI (xs : Sts) : Prop := ∀ (i : Nat) (a0 : Int) (a1 : ByteArray) (a2 : Exs) (a3 : Cds) (a4 a5 : Sts) (a6 : Int) (ar : Sts), Sts.drop i xs = .cons a0 a1 a2 a3 a4 a5 a6 ar → CntC a4 ∧ CntC a5
set_option maxRecDepth 100000 in
set_option maxHeartbeats 1600000 in
theorem cnt_one (xs : Sts) (hall0 : CntI xs) : CntC xs := by
 intro w S Z A c hS hbig hx
 have hl : xs.len ≤ 9223372036854775807 := Nat.le_trans hx.1 hx.2.1.1
 have HA := Lib.hid hall0
 have HX := Lib.hid hx
 have HS := Lib.hid hS
 obtain ⟨m, hm⟩ : ∃ m, m = xs.len := ⟨_, rfl⟩
 rw [← hm] at hl ⊢
 have HM := Lib.hid hm
 obtain ⟨N, hN⟩ : ∃ N, N = cntS xs := ⟨_, rfl⟩
 obtain ⟨F, hF⟩ : ∃ F, F = anyS xs := ⟨_, rfl⟩
 rw [← hN] at hbig ⊢
 rw [← hF]
 have HN := Lib.hid hN
 have HF := Lib.hid hF
 clear hall0 hx hS hm hF hN
 go_enter Tryz.func15, Tryz.ntmps15
 go_wp2_with fail
 go_loop [4, 5, 6] (fun n b i => ∃ (k q : Nat) (p : Bool), k ≤ m ∧ i = .int .i64 k ∧ n = .int .i64 q ∧ b = .bool p ∧ Hid (N = q + cntS (Sts.drop k xs) ∧ F = (p || anyS (Sts.drop k xs)))) (fun _ _ i => m - (intOf i).toNat)
 case atStart => exact ⟨0, 0, false, Nat.zero_le _, rfl, rfl, rfl, Lib.hid ⟨by rw [HN.out]; simp [Sts.drop], by rw [HF.out]; simp [Sts.drop]⟩⟩
 case round =>
  obtain ⟨k, q, p, hk, rfl, rfl, rfl, hall⟩ := hrel
  by_cases hlt : k < m
  ·obtain ⟨a0, a1, a2, a3, a4, a5, a6, ar, hd⟩ := Sts.drop_cons (show k < xs.len from by rw [← HM.out]; exact hlt)
   obtain ⟨B, o, rfl, hat⟩ := HX.out.2.2 (by rw [← HM.out]; omega)
   have hat1 := hat.drop k
   rw [hd] at hat1
   obtain ⟨⟨hbS, _, r0, r1, c0, c1, c6⟩, ⟨A2, q2, c2, s2⟩, ⟨A3, q3, c3, s3⟩, ⟨A4, q4, c4, s4⟩, ⟨A5, q5, c5, s5⟩, _⟩ := hat1
   have hxr : B < w.heap.size := HS.out _ hbS
   have hlt' : (k : Int) < (m : Int) := by omega
   have hge : (0 : Int) ≤ (k : Int) := by omega
   obtain ⟨hr4, hr5⟩ := HA.out k a0 a1 a2 a3 a4 a5 a6 ar hd
   obtain ⟨hs1, hs2⟩ := cnt_step hd
   obtain ⟨hall1, hall2⟩ := hall.out
   rw [hs1] at hall1
   rw [hs2] at hall2
   have H4 := hr4 w S Z A4 q4 HS.out (by omega) s4
   have H5 := hr5 w S Z A5 q5 HS.out (by omega) s5
   obtain ⟨n4, hn4⟩ : ∃ v, v = cntS a4 := ⟨_, rfl⟩
   obtain ⟨n5, hn5⟩ : ∃ v, v = cntS a5 := ⟨_, rfl⟩
   obtain ⟨v4, hv4⟩ : ∃ v, v = anyS a4 := ⟨_, rfl⟩
   obtain ⟨v5, hv5⟩ : ∃ v, v = anyS a5 := ⟨_, rfl⟩
   obtain ⟨v9, hv9⟩ : ∃ v, v = (a0 == 9) := ⟨_, rfl⟩
   rw [← hn4, ← hn5] at hall1
   rw [← hv4, ← hv5, ← hv9] at hall2
   rw [← hn4, ← hv4] at H4
   rw [← hn5, ← hv5] at H5
   have hq : q + n4 + n5 < 1099511627777 := by omega
   have HA1 := Lib.hid hall1
   have HA2 := Lib.hid hall2
   have H4 := Lib.hid H4
   have H5 := Lib.hid H5
   have e9 := hv9.symm
   clear hd hat hall hbS s2 s3 s4 s5 r0 r1 hr4 hr5 hs1 hs2 hall1 hall2 hn4 hn5 hv4 hv5 hv9 c1 c2 c3 c6 hbig
   go_wp2_with fail
   refine H4.out.mono ?_
   rintro _ _ ⟨rfl, rfl⟩
   go_wp2_with fail
   refine H5.out.mono ?_
   rintro _ _ ⟨rfl, rfl⟩
   have HAll := Lib.hid (show N = (q + 1 + n4 + n5) + cntS (Sts.drop (k + 1) xs) ∧ F = ((p || v4 || v5 || v9) || anyS (Sts.drop (k + 1) xs)) from ⟨by have := HA1.out; omega, by rw [HA2.out]; simp [Bool.or_assoc]⟩)
   clear HA1 HA2
   cases p <;> cases v4 <;> cases v5 <;> cases v9
   all_goals
    go_wp2_with fail
    go_round
    case rel => exact ⟨k + 1, q + 1 + n4 + n5, _, by omega, by go_num, by go_num, rfl, HAll.out⟩
    case measure => simp [intOf]; omega
  ·have hlt' : ¬ (k : Int) < (m : Int) := by omega
   obtain ⟨hall1, hall2⟩ := hall.out
   rw [Sts.drop_nil (by rw [← HM.out]; omega)] at hall1 hall2
   have e1 := Lib.hid (show N = q from by rw [hall1]; simp [cntS])
   have e2 := Lib.hid (show F = p from by rw [hall2]; simp [anyS])
   clear hall hall1 hall2 hbig
   go_wp2_with fail
   go_ret2
   exact ⟨by rw [e1.out, e2.out]; rfl, rfl⟩
theorem cnt_all : ∀ xs : Sts, CntI xs
 | .nil => fun i _ _ _ _ _ _ _ _ hd => by cases i <;> simp [Sts.drop] at hd
 | .cons k0 k1 k2 k3 k4 k5 k6 kr => fun i _ _ _ _ _ _ _ _ hd => by
  cases i with
  | zero =>
   simp only [Sts.drop] at hd
   injection hd with e0 e1 e2 e3 e4 e5 e6 e7
   subst e0 e1 e2 e3 e4 e5 e6 e7
   exact ⟨cnt_one k4 (cnt_all k4), cnt_one k5 (cnt_all k5)⟩
  | succ i =>
   simp only [Sts.drop] at hd
   exact cnt_all kr i _ _ _ _ _ _ _ _ hd
theorem counted_any (xs : Sts) : CntC xs := cnt_one xs (cnt_all xs)

theorem wpE_skip {P : Program} {Q : Exit → Act → World → Prop} {md : Region.Mode} {S : World → Prop} {n : Nat → Bool} {l : List Oper} (i : Nat) {oi : Oper} {r : List Oper} {f : Nat} {listed : Array Bool} {a : Act} {w : World} (hi : l.drop i = oi :: r) (hs : (Region.noSelect l.toArray && Region.free md l.toArray listed i && (Region.ready md l.toArray listed).contains i) = true)
  (hQ : ∀ c a w, Q (.panic c) (a.put oi.dst undef) w → Q (.panic c) a w) (hw : Region.wanted oi (yielded l.toArray a.tmps) = false)
  (h : wpE P md l.toArray Q S n f (listed.setIfInBounds i true) (a.put oi.dst undef) w) : wpE P md l.toArray Q S n (f + 1) listed a w := by
 simp only [Bool.and_eq_true] at hs
 exact wpE_pure1 (at_dropE hi) hs.1.1 hQ f listed a w (Region.free_spec (at_dropE hi) hs.1.2) (by simpa using hs.2) (.inr ⟨hw, rfl⟩) h
theorem inlT_cases (t : Tre) : (∃ e, e ≠ 0 ∧ inlT t = (noTre, e)) ∨ (OkT t ∧ fullB (inlQ t).2 = false ∧ inlT t = (⟨(inlQ t).2.vars, t.arrays, [], (inlQ t).1⟩, 0)) := by
 unfold inlT
 by_cases h : (treeC t).2 = 0
 ·rw [if_pos h]
  cases hf : fullB (inlQ t).2
  ·exact .inr ⟨treeC_no h, rfl, rfl⟩
  ·exact .inl ⟨9, by decide, rfl⟩
 ·rw [if_neg h]
  exact .inl ⟨_, h, rfl⟩
theorem nodup_ne {V : List Va} (h : (nmV V).Nodup) {j k : Nat} {x y : Va} {r q : List Va} (hjk : j < k) (hj : V.drop j = x :: r) (hk : V.drop k = y :: q) : x.nm.data.toList ≠ y.nm.data.toList := fun e => by
 have gj : V[j]? = some x := by simpa using congrArg List.head? hj
 have gk : V[k]? = some y := by simpa using congrArg List.head? hk
 have lj : j < (nmV V).length := by unfold nmV; rw [List.length_map]; exact (List.getElem?_eq_some_iff.1 gj).1
 have e1 : (nmV V)[j]? = (nmV V)[k]? := by
  unfold nmV
  rw [List.getElem?_map, List.getElem?_map, gj, gk]
  simp [e]
 exact absurd ((List.getElem?_inj lj h).1 e1) (by omega)
set_option maxRecDepth 100000 in
set_option maxHeartbeats 1600000 in
theorem inone_else (t : Tre) (e : Int) (w : World) (S : Nat → Prop) (Z : Prop) (Av Aa Ap Am : Option Addr) (cv ca cp cm : Nat) (he : NameEnv w) (hS : ∀ b, S b → b < w.heap.size) (hsz : SzT t) (hx : TrR w S Z t Av Aa Ap Am cv ca cp cm) (hne : e ≠ 0) (ht : inlT t = (noTre, e)) :
  Calls Tryz.prog 4 #[trV t Av Aa Ap Am cv ca cp cm] w (TruePost w) := by
 have hsw : ∀ W, Fr NoT w W → ∀ b, S b → b < W.heap.size := fun W h b hb => Nat.lt_of_lt_of_le (hS b hb) h.size
 have hxw : ∀ W, Fr NoT w W → TrR W S Z t Av Aa Ap Am cv ca cp cm := fun W h => hx.keep (h.same fun b hb => ⟨hS b hb, id⟩)
 have H1 := Lib.hid (fun W (h : Fr NoT w W) => ialive_any W (he.keep h.plain))
 have H2 := Lib.hid (fun W (h : Fr NoT w W) => tgreat_any t W S Z Av Aa Ap Am cv ca cp cm (hsw W h) (hxw W h))
 have h3 := fun W (h : Fr NoT w W) => inl_any t W S Z Av Aa Ap Am cv ca cp cm (he.keep h.plain).toSp (he.keep h.plain).lex.tab (hsw W h) hsz (hxw W h)
 rw [ht] at h3
 have h3 : ∀ W, Fr NoT w W → Calls Tryz.prog 14 #[trV t Av Aa Ap Am cv ca cp cm] W (fun f w' => ∃ Av Aa Ap Am cv ca cp cm, f = .returned (.tuple #[.agg #[.slice Av 0 cv, .slice Aa 0 ca, .slice Ap 0 cp, .slice Am 0 cm], .int .i64 e]) ∧ TrR w' (New W.heap.size w') False noTre Av Aa Ap Am cv ca cp cm ∧ Fr NoT W w') := h3
 have e1 : (e != 0) = true := by simpa using hne
 have H3 := Lib.hid h3
 unfold trV at H2 H3 ⊢
 have hf1 : Fr NoT w (w.alloc (.cells #[.slice Av t.vars.length cv, .slice Aa t.arrays.length ca, .slice Ap t.procs.length cp, .slice Am t.main.len cm] 27)) := (Fr.refl _ _).alloc _
 have HF1 := Lib.hid hf1
 have HK1 := Lib.hid (Bk.new w 27 #[.slice Av t.vars.length cv, .slice Aa t.arrays.length ca, .slice Ap t.procs.length cp, .slice Am t.main.len cm])
 clear hsw hxw h3 ht hne hf1 hx hsz hS he
 go_enter Tryz.func4, Tryz.ntmps4
 go_wp2_with fail
 refine (H1.out _ HF1.out).mono ?_
 rintro _ w1 ⟨rfl, hb1⟩
 have hk1 := HK1.out.fr0 (Fr.below hb1)
 obtain ⟨x0, x1, x2, x3, hl1⟩ := bk4 hk1
 have HF2 := Lib.hid (HF1.out.trans (Fr.below hb1))
 have HK2 := Lib.hid hk1
 clear hb1 hk1 H1
 go_wp2_with fail
 refine (H2.out _ HF2.out).mono ?_
 rintro _ w2 ⟨g, rfl, hf2⟩
 have HF3 := Lib.hid (HF2.out.trans hf2)
 have hk2 := HK2.out.fr0 hf2
 clear x0 x1 x2 x3 hl1
 obtain ⟨x0, x1, x2, x3, hl1⟩ := bk4 hk2
 clear hf2 hk2 H2
 cases g
 ·go_wp2_with fail
  refine (H3.out _ HF3.out).mono ?_
  rintro _ w3 ⟨Bv, Ba, Bp, Bm, dv, da, dp, dm, rfl, hT, hf3⟩
  have HF4 := Lib.hid ((HF3.out.trans hf3).alloc (.cells #[.slice Bv 0 dv, .slice Ba 0 da, .slice Bp 0 dp, .slice Bm 0 dm] 27))
  clear hf3 hT
  go_wp2_with fail
  go_ret
  exact ⟨rfl, HF4.out.plain⟩
 ·go_wp2_with fail
  go_ret
  exact ⟨rfl, HF3.out.plain⟩
set_option maxRecDepth 100000 in
set_option maxHeartbeats 3200000 in
theorem inone_right (t : Tre) (w : World) (S : Nat → Prop) (Z : Prop) (Av Aa Ap Am : Option Addr) (cv ca cp cm : Nat) (he : NameEnv w) (hS : ∀ b, S b → b < w.heap.size) (hsz : SzT t) (hx : TrR w S Z t Av Aa Ap Am cv ca cp cm) (ht : OkT t) (hfull : fullB (inlQ t).2 = false) (hq : inlT t = (⟨(inlQ t).2.vars, t.arrays, [], (inlQ t).1⟩, 0)) :
  Calls Tryz.prog 4 #[trV t Av Aa Ap Am cv ca cp cm] w (TruePost w) := by
 have hsw : ∀ W, Fr NoT w W → ∀ b, S b → b < W.heap.size := fun W h b hb => Nat.lt_of_lt_of_le (hS b hb) h.size
 have hxw : ∀ W, Fr NoT w W → TrR W S Z t Av Aa Ap Am cv ca cp cm := fun W h => hx.keep (h.same fun b hb => ⟨hS b hb, id⟩)
 have H1 := Lib.hid (fun W (h : Fr NoT w W) => ialive_any W (he.keep h.plain))
 have H2 := Lib.hid (fun W (h : Fr NoT w W) => tgreat_any t W S Z Av Aa Ap Am cv ca cp cm (hsw W h) (hxw W h))
 have h3 := fun W (h : Fr NoT w W) => inl_any t W S Z Av Aa Ap Am cv ca cp cm (he.keep h.plain).toSp (he.keep h.plain).lex.tab (hsw W h) hsz (hxw W h)
 have hnm := fun (s : ByteArray) (hs : s.size ≤ 9223372036854775807) W (h : Fr NoT w W) => name_any s hs W (he.keep h.plain)
 rw [hq] at h3
 obtain ⟨q1, q2, q3, news, q4, q5, q6, q7⟩ := inl_none ht hfull
 obtain ⟨V, hV⟩ : ∃ V, V = (inlQ t).2.vars := ⟨_, rfl⟩
 obtain ⟨M, hM⟩ : ∃ M, M = (inlQ t).1 := ⟨_, rfl⟩
 rw [← hV] at h3 q3 q4
 rw [← hM] at h3 q1 q2
 rw [← q4] at q6
 obtain ⟨nv, hnv⟩ : ∃ n, n = V.length := ⟨_, rfl⟩
 obtain ⟨nm, hnm'⟩ : ∃ n, n = M.len := ⟨_, rfl⟩
 obtain ⟨n1, hn1⟩ : ∃ n, n = t.vars.length := ⟨_, rfl⟩
 obtain ⟨n2, hn2⟩ : ∃ n, n = t.arrays.length := ⟨_, rfl⟩
 obtain ⟨n3, hn3⟩ : ∃ n, n = t.procs.length := ⟨_, rfl⟩
 obtain ⟨n4, hn4⟩ : ∃ n, n = t.main.len := ⟨_, rfl⟩
 have h3 : ∀ W, Fr NoT w W → Calls Tryz.prog 14 #[trV t Av Aa Ap Am cv ca cp cm] W (fun f w' => ∃ Av Aa Ap Am cv ca cp cm, f = .returned (.tuple #[.agg #[.slice Av nv cv, .slice Aa n2 ca, .slice Ap 0 cp, .slice Am nm cm], .int .i64 0]) ∧ TrR w' (New W.heap.size w') False ⟨V, t.arrays, [], M⟩ Av Aa Ap Am cv ca cp cm ∧ Fr NoT W w') := by
  rw [hnv, hnm', hn2]; exact h3
 have H3 := Lib.hid h3
 unfold trV at H2 H3 ⊢
 rw [← hn1, ← hn2, ← hn3, ← hn4] at H2 H3 ⊢
 have hn1v : n1 ≤ nv := by rw [hn1, hnv, q4, List.length_append]; omega
 rw [← hnv] at q3
 obtain ⟨N, hN⟩ : ∃ N, N = cntS M := ⟨_, rfl⟩
 have hcn := fun (W : World) (S' : Nat → Prop) (A : Option Addr) (c : Nat) (h1 : ∀ x, S' x → x < W.heap.size) (h2 : SlR (fun b o => StR W S' False M b o) M.len 128 A c) => counted_any M W S' False A c h1 (by omega) h2
 rw [q1, ← hN, ← hnm'] at hcn
 rw [← hN] at q2
 have HCN := Lib.hid hcn
 have HNM := Lib.hid hnm
 have HXW := Lib.hid hxw
 have HSW := Lib.hid hsw
 have HNV := Lib.hid hnv
 have HMM := Lib.hid hnm'
 have HN1 := Lib.hid hn1
 have HVN := Lib.hid q4
 have HNW := Lib.hid q5
 have HND := Lib.hid q6
 have HNZ := Lib.hid q7
 have hf1 : Fr NoT w (w.alloc (.cells #[.slice Av n1 cv, .slice Aa n2 ca, .slice Ap n3 cp, .slice Am n4 cm] 27)) := (Fr.refl _ _).alloc _
 have HF1 := Lib.hid hf1
 have HK1 := Lib.hid (Bk.new w 27 #[.slice Av n1 cv, .slice Aa n2 ca, .slice Ap n3 cp, .slice Am n4 cm])
 have r1 : decide ((256 : Int) < (N : Int)) = false := by simp; omega
 have r2 : decide ((32 : Int) < (nv : Int)) = false := by simp; omega
 have r3 : decide ((nv : Int) < (n1 : Int)) = false := by simp; omega
 clear hsw hxw h3 hnm hcn ht hfull hq hf1 hx hsz hS he q1 q2 q4 q5 q6 q7 hV hM hnv hnm' hn1 hn2 hn3 hn4 hN
 go_enter Tryz.func4, Tryz.ntmps4
 go_wp2_with fail
 refine (H1.out _ HF1.out).mono ?_
 rintro _ w1 ⟨rfl, hb1⟩
 have hk1 := HK1.out.fr0 (Fr.below hb1)
 obtain ⟨x0, x1, x2, x3, hl1⟩ := bk4 hk1
 have HF2 := Lib.hid (HF1.out.trans (Fr.below hb1))
 have HK2 := Lib.hid hk1
 clear hb1 hk1 H1
 go_wp2_with fail
 refine (H2.out _ HF2.out).mono ?_
 rintro _ w2 ⟨g, rfl, hf2⟩
 have HF3 := Lib.hid (HF2.out.trans hf2)
 have hk2 := HK2.out.fr0 hf2
 clear x0 x1 x2 x3 hl1
 obtain ⟨x0, x1, x2, x3, hl1⟩ := bk4 hk2
 have HK3 := Lib.hid hk2
 clear hf2 hk2 H2
 cases g
 rotate_left
 ·go_wp2_with fail
  go_ret
  exact ⟨rfl, HF3.out.plain⟩
 go_wp2_with fail
 refine (H3.out _ HF3.out).mono ?_
 rintro _ w3 ⟨Bv, Ba, Bp, Bm, dv, da, dp, dm, rfl, hT, hf3⟩
 obtain ⟨w4, hw4⟩ : ∃ y, y = w3.alloc (.cells #[.slice Bv nv dv, .slice Ba n2 da, .slice Bp 0 dp, .slice Bm nm dm] 27) := ⟨_, rfl⟩
 have hf34 : Fr NoT w3 w4 := by rw [hw4]; exact (Fr.refl _ _).alloc _
 have hko : Bk w4 w3.heap.size 27 #[.slice Bv nv dv, .slice Ba n2 da, .slice Bp 0 dp, .slice Bm nm dm] := by rw [hw4]; exact Bk.new _ _ _
 have hos : ∀ W, Fr NoT w4 W → ∀ b, New w2.heap.size w3 b → b < W.heap.size := fun W h b hb => Nat.lt_of_lt_of_le hb.2 (Nat.le_trans hf34.size h.size)
 have hto : ∀ W, Fr NoT w4 W → TrR W (New w2.heap.size w3) False ⟨V, t.arrays, [], M⟩ Bv Ba Bp Bm dv da dp dm := fun W h => hT.keep ((hf34.trans h).same fun b hb => ⟨hb.2, id⟩)
 have hc4 := HCN.out w4 (New w2.heap.size w3) Bm dm (hos _ (Fr.refl _ _)) (by have h := (hto _ (Fr.refl _ _)).main; rw [HMM.out]; exact h)
 have HC4 := Lib.hid hc4
 have HOW := Lib.hid hto
 have HOS := Lib.hid hos
 have HF34 := Lib.hid hf34
 have HF4 := Lib.hid ((HF3.out.trans hf3).trans hf34)
 have hk4 := (HK3.out.fr0 hf3).fr0 hf34
 have HK4 := Lib.hid hk4
 have HKO := Lib.hid hko
 have HW4 := Lib.hid hw4
 clear x0 x1 x2 x3 hl1 hf3 hT hf34 hos hto hc4 hw4 H3 HCN hk4 hko
 go_wp2_with fail
 rw [← HW4.out]
 refine HC4.out.mono ?_
 rintro _ _ ⟨rfl, rfl⟩
 obtain ⟨x0, x1, x2, x3, hl1⟩ := bk4 HK4.out
 obtain ⟨y0, y1, y2, y3, hl2⟩ := bk4 HKO.out
 go_wp2_with fail
 clear x0 x1 x2 x3 hl1 y0 y1 y2 y3 hl2
 go_loopw [8] (fun i wr => ∃ k : Nat, k ≤ nv ∧ i = .int .i64 k ∧ Hid (Fr NoT w4 wr)) (fun i _ => nv - (intOf i).toNat)
 case atStart => exact ⟨0, Nat.zero_le _, rfl, Fr.refl _ _⟩
 case round =>
  obtain ⟨k, hk, rfl, hb⟩ := hrel
  have hkk := HK4.out.fr0 hb.out
  obtain ⟨x0, x1, x2, x3, hl1⟩ := bk4 hkk
  have hkk2 := HKO.out.fr0 hb.out
  obtain ⟨y0, y1, y2, y3, hl2⟩ := bk4 hkk2
  have HB := Lib.hid hb.out
  clear hkk hkk2
  by_cases hlt : k < nv
  rotate_left
  ·have hlt' : ¬ (k : Int) < (nv : Int) := by omega
   clear hb
   go_wp2_with fail
   go_ret
   exact ⟨rfl, (HF4.out.trans HB.out).plain⟩
  have hlt' : (k : Int) < (nv : Int) := by omega
  have hge : (0 : Int) ≤ (k : Int) := by omega
  obtain ⟨⟨a0, a1⟩, ar, hd⟩ := drop_head1 (show k < V.length from by rw [← HNV.out]; exact hlt)
  have HD := Lib.hid hd
  have hO := HOW.out _ hb.out
  obtain ⟨B', o', hAv', hat'⟩ := hO.vars.2.2 (by rw [← HNV.out]; omega)
  subst hAv'
  have hat2 := hat'.drop k
  rw [hd.1] at hat2
  obtain ⟨⟨hbS', _, _, d0, d1⟩, _⟩ := hat2
  have hxr' : B' < wr.heap.size := HOS.out _ hb.out _ hbS'
  simp only at d0 d1
  by_cases hlt1 : k < n1
  ·have hT := HXW.out _ (HF4.out.trans hb.out)
   obtain ⟨B, o, hAv, hat⟩ := hT.vars.2.2 (by rw [← HN1.out]; omega)
   subst hAv
   have hat1 := hat.drop k
   have hd1 : t.vars.drop k = ⟨a0, a1⟩ :: ar.take (n1 - (k + 1)) := by
    have h1 := hd.1
    have hl : t.vars.length = n1 := HN1.out.symm
    rw [HVN.out, List.drop_append_of_le_length (by omega)] at h1
    have h2 := congrArg (List.take (n1 - k)) h1
    rw [List.take_append_of_le_length (by rw [List.length_drop]; omega), List.take_of_length_le (by rw [List.length_drop]; omega), show n1 - k = (n1 - (k + 1)) + 1 from by omega, List.take_succ_cons] at h2
    exact h2
   rw [hd1] at hat1
   obtain ⟨⟨hbS, _, _, c0, c1⟩, _⟩ := hat1
   have hxr : B < wr.heap.size := HSW.out _ (HF4.out.trans hb.out) _ hbS
   simp only at c0 c1
   have g1 : decide ((k : Int) < (n1 : Int)) = true := by simp; omega
   have g2 : (k : Int) < (n1 : Int) := by omega
   have g3 : decide ((n1 : Int) ≤ (k : Int)) = false := by simp; omega
   have g4 : decide (n1 ≤ k) = false := by simp; omega
   have g5 : decide (k < n1) = true := by simp; omega
   clear hd hO hat hat' hbS hbS' hT hd1 hlt1
   go_wp2_with fail
   go_quiet (fail)
   obtain ⟨wd, hwd⟩ : ∃ y, y = wr.drewN nq := ⟨_, rfl⟩
   rw [← hwd]
   have hbd : Hid (Fr NoT w4 wd) := Lib.hid (by rw [hwd]; exact HB.out.drewN _)
   clear HB hb c0 c1 d0 d1 hwd hxr hxr'
   have HB := Lib.hid hbd.out
   clear hbd
   go_wp2_with fail
   clear x0 x1 x2 x3 hl1 y0 y1 y2 y3 hl2
   obtain ⟨wq, rfl⟩ : ∃ wq : World, wq = wd := ⟨_, rfl⟩
   go_loopw [9] (fun i wr => ∃ j : Nat, j ≤ k ∧ i = .int .i64 j ∧ Hid (Fr NoT w4 wr)) (fun i _ => k - (intOf i).toNat)
   case atStart => exact ⟨0, Nat.zero_le _, rfl, HB.out⟩
   case round =>
    clear HB
    obtain ⟨j, hj, rfl, hb⟩ := hrel
    have hkk := HKO.out.fr0 hb.out
    obtain ⟨y0, y1, y2, y3, hl2⟩ := bk4 hkk
    have HB := Lib.hid hb.out
    clear hkk
    by_cases hltj : j < k
    ·have hltj' : (j : Int) < (k : Int) := by omega
     have hgej : (0 : Int) ≤ (j : Int) := by omega
     have hjv : (j : Int) < (nv : Int) := by omega
     obtain ⟨⟨b0, b1⟩, br, hd2⟩ := drop_head1 (show j < V.length from by rw [← HNV.out]; omega)
     have hO := HOW.out _ hb.out
     obtain ⟨B2, o2, hAv, hat⟩ := hO.vars.2.2 (by rw [← HNV.out]; omega)
     obtain ⟨e1, e2⟩ : B' = B2 ∧ o' = o2 := by simpa using hAv
     subst e1 e2
     have hat1 := hat.drop k
     have hat2 := hat.drop j
     rw [HD.out.1] at hat1
     rw [hd2.1] at hat2
     obtain ⟨⟨hbS, _, _, c0, c1⟩, _⟩ := hat1
     obtain ⟨⟨_, _, _, d0, d1⟩, _⟩ := hat2
     have hxr : B' < wr.heap.size := Nat.lt_of_lt_of_le hbS.2 (Nat.le_trans HF34.out.size hb.out.size)
     simp only at c0 c1 d0 d1
     have g1 : (b0.toList == a0.toList) = false := by
      have h2 : ¬ b0.toList = a0.toList := fun e => nodup_ne HND.out (show j < k from hltj) hd2.1 HD.out.1 ((toList_data _ _).1 e)
      simpa using h2
     clear hd2 hO hat hbS hb hj hltj hAv
     go_wp2_with fail
     go_quiet (fail)
     go_wp2_with fail
     go_roundw
     case rel => exact ⟨j + 1, by omega, by go_num, HB.out.drewN _⟩
     case measure => simp [intOf]; omega
    ·have hltj' : ¬ (j : Int) < (k : Int) := by omega
     clear hb
     go_wp2_with fail
     go_roundw
     case rel => exact ⟨k + 1, by omega, by go_num⟩
     case measure => simp [intOf]; omega
  ·have hin : (⟨a0, a1⟩ : Va) ∈ news := by
    have h1 := hd.1
    have hl : t.vars.length = n1 := HN1.out.symm
    rw [HVN.out, List.drop_append, List.drop_eq_nil_of_le (by omega), List.nil_append] at h1
    exact mem_drop1 h1
   have hz0 : a0.size ≤ 64 := HNZ.out _ hin
   have hnmC := HNM.out a0 (by omega) wr.drew ((HF4.out.trans hb.out).drew)
   have hno : nameB a0.data.toList = false := HNW.out ⟨a0, a1⟩ hin
   rw [hno] at hnmC
   have HNC := Lib.hid hnmC
   have g1 : decide ((k : Int) < (n1 : Int)) = false := by simp; omega
   have g4 : decide ((n1 : Int) ≤ (k : Int)) = true := by simp; omega
   have g5 : decide (n1 ≤ k) = true := by simp; omega
   have g6 : decide (k < n1) = false := by simp; omega
   have g2 : ¬ (k : Int) < (n1 : Int) := by omega
   have HS : Hid (∀ W', Fr NoT wr W' → W'.cell? ⟨w.heap.size, 0, none⟩ = some (.slice Av n1 cv) ∧ W'.cell? ⟨w3.heap.size, 0, none⟩ = some (.slice (some ⟨B', o', none⟩) nv dv) ∧ W'.cell? ⟨B', o' + k * 2, none⟩ = some (.string a0)) :=
    Lib.hid (fun W' hf => ⟨(hf.cell (p := ⟨w.heap.size, 0, none⟩) hl1 id).trans x0, (hf.cell (p := ⟨w3.heap.size, 0, none⟩) hl2 id).trans y0, (hf.cell (p := ⟨B', o' + k * 2, none⟩) hxr' id).trans d0⟩)
   clear hd hO hat' hbS' hlt1 hnmC hno hin
   go_wp2_with fail
   refine wp_region_E (fun W' => W'.cell? ⟨w.heap.size, 0, none⟩ = some (.slice Av n1 cv) ∧ W'.cell? ⟨w3.heap.size, 0, none⟩ = some (.slice (some ⟨B', o', none⟩) nv dv) ∧ W'.cell? ⟨B', o' + k * 2, none⟩ = some (.string a0)) (fun _ => true) (by kernel_rfl) (HS.out _ ((Fr.refl NoT wr).drew)) (fun hHeld => ?_)
   refine wpE_pure 0 (v := ?_) rfl (by kernel_rfl) (fun _ _ _ h => h) (by rfl) ?_ ?_; rotate_left
   ·intro wz; go_simp; try with_reducible rfl
   try simp only [putsL]
   refine wpE_pure 1 (v := ?_) rfl (by kernel_rfl) (fun _ _ _ h => h) (by rfl) ?_ ?_; rotate_left
   ·intro wz; go_simp; try with_reducible rfl
   try simp only [putsL]
   refine wpE_take 2 (v := ?_) rfl (by kernel_rfl) (fun _ _ _ h => h) hHeld (by rfl) ?_ ?_; rotate_left
   ·intro wz hSz; (try dsimp only at hSz); go_simp; try with_reducible rfl
   try simp only [putsL]
   refine wpE_pure 3 (v := ?_) rfl (by kernel_rfl) (fun _ _ _ h => h) (by rfl) ?_ ?_; rotate_left
   ·intro wz; go_simp; try with_reducible rfl
   try simp only [putsL]
   refine wpE_pure 4 (v := ?_) rfl (by kernel_rfl) (fun _ _ _ h => h) (by rfl) ?_ ?_; rotate_left
   ·intro wz; go_simp; try with_reducible rfl
   try simp only [putsL]
   refine wpE_pure 5 (v := ?_) rfl (by kernel_rfl) (fun _ _ _ h => h) (by rfl) ?_ ?_; rotate_left
   ·intro wz; go_simp; try with_reducible rfl
   try simp only [putsL]
   refine wpE_skip 6 rfl (by kernel_rfl) (fun _ _ _ h => h) (by rfl) ?_
   try simp only [putsL]
   refine wpE_skip 7 rfl (by kernel_rfl) (fun _ _ _ h => h) (by rfl) ?_
   try simp only [putsL]
   refine wpE_skip 8 rfl (by kernel_rfl) (fun _ _ _ h => h) (by rfl) ?_
   try simp only [putsL]
   refine wpE_skip 9 rfl (by kernel_rfl) (fun _ _ _ h => h) (by rfl) ?_
   try simp only [putsL]
   refine wpE_skip 10 rfl (by kernel_rfl) (fun _ _ _ h => h) (by rfl) ?_
   try simp only [putsL]
   refine wpE_skip 11 rfl (by kernel_rfl) (fun _ _ _ h => h) (by rfl) ?_
   try simp only [putsL]
   refine wpE_skip 12 rfl (by kernel_rfl) (fun _ _ _ h => h) (by rfl) ?_
   try simp only [putsL]
   refine wpE_skip 13 rfl (by kernel_rfl) (fun _ _ _ h => h) (by rfl) ?_
   try simp only [putsL]
   refine wpE_skip 14 rfl (by kernel_rfl) (fun _ _ _ h => h) (by rfl) ?_
   try simp only [putsL]
   refine wpE_skip 15 rfl (by kernel_rfl) (fun _ _ _ h => h) (by rfl) ?_
   try simp only [putsL]
   refine wpE_skip 16 rfl (by kernel_rfl) (fun _ _ _ h => h) (by rfl) ?_
   try simp only [putsL]
   refine wpE_pure 17 (v := ?_) rfl (by kernel_rfl) (fun _ _ _ h => h) (by rfl) ?_ ?_; rotate_left
   ·intro wz; go_simp; try with_reducible rfl
   try simp only [putsL]
   refine wpE_pure 18 (v := ?_) rfl (by kernel_rfl) (fun _ _ _ h => h) (by rfl) ?_ ?_; rotate_left
   ·intro wz; go_simp; try with_reducible rfl
   try simp only [putsL]
   refine wpE_pure 19 (v := ?_) rfl (by kernel_rfl) (fun _ _ _ h => h) (by rfl) ?_ ?_; rotate_left
   ·intro wz; go_simp; try with_reducible rfl
   try simp only [putsL]
   refine wpE_pure 20 (v := ?_) rfl (by kernel_rfl) (fun _ _ _ h => h) (by rfl) ?_ ?_; rotate_left
   ·intro wz; go_simp; try with_reducible rfl
   try simp only [putsL]
   refine wpE_take 21 (v := ?_) rfl (by kernel_rfl) (fun _ _ _ h => h) hHeld (by rfl) ?_ ?_; rotate_left
   ·intro wz hSz; (try dsimp only at hSz); go_simp; try with_reducible rfl
   try simp only [putsL]
   refine wpE_pure 22 (v := ?_) rfl (by kernel_rfl) (fun _ _ _ h => h) (by rfl) ?_ ?_; rotate_left
   ·intro wz; go_simp; try with_reducible rfl
   try simp only [putsL]
   refine wpE_pure 23 (v := ?_) rfl (by kernel_rfl) (fun _ _ _ h => h) (by rfl) ?_ ?_; rotate_left
   ·intro wz; go_simp; try with_reducible rfl
   try simp only [putsL]
   refine wpE_pure 24 (v := ?_) rfl (by kernel_rfl) (fun _ _ _ h => h) (by rfl) ?_ ?_; rotate_left
   ·intro wz; go_simp; try with_reducible rfl
   try simp only [putsL]
   refine wpE_pure 25 (v := ?_) rfl (by kernel_rfl) (fun _ _ _ h => h) (by rfl) ?_ ?_; rotate_left
   ·intro wz; go_simp; try with_reducible rfl
   try simp only [putsL]
   refine wpE_take 26 (v := ?_) rfl (by kernel_rfl) (fun _ _ _ h => h) hHeld (by rfl) ?_ ?_; rotate_left
   ·intro wz hSz; (try dsimp only at hSz); go_simp; try with_reducible rfl
   try simp only [putsL]
   refine wpE_pure 27 (v := ?_) rfl (by kernel_rfl) (fun _ _ _ h => h) (by rfl) ?_ ?_; rotate_left
   ·intro wz; go_simp; try with_reducible rfl
   try simp only [putsL]
   refine wpE_pure 28 (v := ?_) rfl (by kernel_rfl) (fun _ _ _ h => h) (by rfl) ?_ ?_; rotate_left
   ·intro wz; go_simp; try with_reducible rfl
   try simp only [putsL]
   refine wpE_pure 29 (v := ?_) rfl (by kernel_rfl) (fun _ _ _ h => h) (by rfl) ?_ ?_; rotate_left
   ·intro wz; go_simp; try with_reducible rfl
   try simp only [putsL]
   refine wpE_take 30 (v := ?_) rfl (by kernel_rfl) (fun _ _ _ h => h) hHeld (by rfl) ?_ ?_; rotate_left
   ·intro wz hSz; (try dsimp only at hSz); go_simp; try with_reducible rfl
   try simp only [putsL]
   refine wpE_next 31 rfl (by kernel_rfl) (fun KK hK => ?_)
   go_simp
   go_at_call 16
   refine HNC.out.mono ?_
   rintro _ w5 ⟨rfl, hb5⟩
   have hf5 : Fr NoT wr w5 := ((Fr.refl NoT wr).drew).trans (Fr.below hb5)
   have HB5 := Lib.hid (HB.out.trans hf5)
   have hs5 := HS.out w5 hf5
   try dsimp only
   refine hK _ _ (fun _ _ => hs5) ?_
   clear hK KK hHeld hb5 hf5 hs5 HB x0 x1 x2 x3 hl1 y0 y1 y2 y3 hl2 d0 d1
   try simp only [putsL]
   refine wpE_pure 32 (v := ?_) rfl (by kernel_rfl) (fun _ _ _ h => h) (by rfl) ?_ ?_; rotate_left
   ·intro wz; go_simp; try with_reducible rfl
   try simp only [putsL]
   refine wpE_pure 33 (v := ?_) rfl (by kernel_rfl) (fun _ _ _ h => h) (by rfl) ?_ ?_; rotate_left
   ·intro wz; go_simp; try with_reducible rfl
   try simp only [putsL]
   refine wpE_done (by kernel_rfl) ?_
   have HB := Lib.hid HB5.out
   clear HB5
   go_wp2_with fail
   obtain ⟨wq, rfl⟩ : ∃ wq : World, wq = w5 := ⟨_, rfl⟩
   go_loopw [9] (fun i wr => ∃ j : Nat, j ≤ k ∧ i = .int .i64 j ∧ Hid (Fr NoT w4 wr)) (fun i _ => k - (intOf i).toNat)
   case atStart => exact ⟨0, Nat.zero_le _, rfl, HB.out⟩
   case round =>
    clear HB
    obtain ⟨j, hj, rfl, hb⟩ := hrel
    have hkk := HKO.out.fr0 hb.out
    obtain ⟨y0, y1, y2, y3, hl2⟩ := bk4 hkk
    have HB := Lib.hid hb.out
    clear hkk
    by_cases hltj : j < k
    ·have hltj' : (j : Int) < (k : Int) := by omega
     have hgej : (0 : Int) ≤ (j : Int) := by omega
     have hjv : (j : Int) < (nv : Int) := by omega
     obtain ⟨⟨b0, b1⟩, br, hd2⟩ := drop_head1 (show j < V.length from by rw [← HNV.out]; omega)
     have hO := HOW.out _ hb.out
     obtain ⟨B2, o2, hAv, hat⟩ := hO.vars.2.2 (by rw [← HNV.out]; omega)
     obtain ⟨e1, e2⟩ : B' = B2 ∧ o' = o2 := by simpa using hAv
     subst e1 e2
     have hat1 := hat.drop k
     have hat2 := hat.drop j
     rw [HD.out.1] at hat1
     rw [hd2.1] at hat2
     obtain ⟨⟨hbS, _, _, c0, c1⟩, _⟩ := hat1
     obtain ⟨⟨_, _, _, d0, d1⟩, _⟩ := hat2
     have hxr : B' < wr.heap.size := Nat.lt_of_lt_of_le hbS.2 (Nat.le_trans HF34.out.size hb.out.size)
     simp only at c0 c1 d0 d1
     have g1 : (b0.toList == a0.toList) = false := by
      have h2 : ¬ b0.toList = a0.toList := fun e => nodup_ne HND.out (show j < k from hltj) hd2.1 HD.out.1 ((toList_data _ _).1 e)
      simpa using h2
     clear hd2 hO hat hbS hb hj hltj hAv
     go_wp2_with fail
     go_quiet (fail)
     go_wp2_with fail
     go_roundw
     case rel => exact ⟨j + 1, by omega, by go_num, HB.out.drewN _⟩
     case measure => simp [intOf]; omega
    ·have hltj' : ¬ (j : Int) < (k : Int) := by omega
     clear hb
     go_wp2_with fail
     go_roundw
     case rel => exact ⟨k + 1, by omega, by go_num⟩
     case measure => simp [intOf]; omega
theorem inone_any (t : Tre) (w : World) (S : Nat → Prop) (Z : Prop) (Av Aa Ap Am : Option Addr) (cv ca cp cm : Nat) (he : NameEnv w) (hS : ∀ b, S b → b < w.heap.size) (hsz : SzT t) (hx : TrR w S Z t Av Aa Ap Am cv ca cp cm) :
  Calls Tryz.prog 4 #[trV t Av Aa Ap Am cv ca cp cm] w (TruePost w) := by
 rcases inlT_cases t with ⟨e, hne, h⟩ | ⟨h1, h2, h3⟩
 ·exact inone_else t e w S Z Av Aa Ap Am cv ca cp cm he hS hsz hx hne h
 ·exact inone_right t w S Z Av Aa Ap Am cv ca cp cm he hS hsz hx h1 h2 h3
end Go.Proofs.YtfcegaklbicmfaaGreatDoor
