/-
  The plain model of names: entries in order; the program's two maps over them.
-/
import Derived.Test.YtocohlcmkbnegaaDoorBp
import Derived.Test.YtocohlcmkbnegaaDoorNb
set_option linter.unusedSimpArgs false
set_option linter.unusedVariables false
set_option linter.unusedSectionVars false
namespace Go.Proofs.YtocohlcmkbnegaaDoor
open Go Go.RowKit

structure En where
  n : Str
  p : Int
  deriving DecidableEq
def En.enc (e : En) : List Value := [sv e.n, .int .i64 e.p]
def En.v (e : En) : Value := .agg e.enc.toArray
def kS (n : Str) : Value := sv n
def kI (n : Int) : Value := .int .i64 n
def okPid (n : Int) : Bool := decide (1 ≤ n ∧ n ≤ 1099511627776)
def undef_ : Str := [117, 110, 100, 101, 102, 105, 110, 101, 100]
def okN (s : Str) : Bool := okA s && decide (s ≠ undef_)
def isN (s : Str) (e : En) : Bool := decide (e.n = s)
def isP (p : Int) (e : En) : Bool := decide (e.p = p)
def insE (e : En) (L : List En) : List En := L.filter (fun x => !decide (e.n < x.n)) ++ e :: L.filter (fun x => decide (e.n < x.n))
def outN (L : List En) (s : Str) : List En := L.filter fun e => !isN s e
def add (L : List En) (s : Str) (p : Int) : Int × List En :=
  if okN s = false then (20, L) else if okPid p = false then (1, L) else if (L.any (isN s) || L.any (isP p)) = true then (6, L) else if 64 ≤ L.length then (8, L) else (0, insE ⟨s, p⟩ L)
def drp (L : List En) (s : Str) : Int × List En := if L.any (isN s) = true then (0, outN L s) else (5, L)
def fndN (L : List En) (s : Str) : Int × Bool := match L.find? (isN s) with | some e => (e.p, true) | none => (0, false)
def fndP (L : List En) (p : Int) : Str × Bool := match L.find? (isP p) with | some e => (e.n, true) | none => ([], false)
def gonL (L : List En) (p : Int) : List En := match L.find? (isP p) with | some e => outN L e.n | none => L

structure NL (L : List En) : Prop where
  len : L.length ≤ 64
  srt : L.Pairwise fun a b => a.n < b.n
  pid : (L.map (·.p)).Nodup
theorem NL.nil : NL [] := ⟨by simp, by simp, by simp⟩
section
variable {L : List En}
theorem NL.nn (h : NL L) : (L.map (·.n)).Nodup := by
  refine List.pairwise_map.2 (h.srt.imp fun hab e => ?_)
  rw [e] at hab; exact List.lt_irrefl _ hab
theorem NL.injN (h : NL L) {a b : En} (ha : a ∈ L) (hb : b ∈ L) (e : a.n = b.n) : a = b := by
  have hn := h.nn
  clear h
  induction L with
  | nil => cases ha
  | cons z L ih =>
    simp only [List.map_cons, List.nodup_cons] at hn
    rcases List.mem_cons.1 ha with rfl | ha' <;> rcases List.mem_cons.1 hb with rfl | hb'
    · rfl
    · exact absurd (List.mem_map.2 ⟨b, hb', e.symm⟩) hn.1
    · exact absurd (List.mem_map.2 ⟨a, ha', e⟩) hn.1
    · exact ih ha' hb' hn.2
theorem NL.injP (h : NL L) {a b : En} (ha : a ∈ L) (hb : b ∈ L) (e : a.p = b.p) : a = b := by
  have hn := h.pid
  clear h
  induction L with
  | nil => cases ha
  | cons z L ih =>
    simp only [List.map_cons, List.nodup_cons] at hn
    rcases List.mem_cons.1 ha with rfl | ha' <;> rcases List.mem_cons.1 hb with rfl | hb'
    · rfl
    · exact absurd (List.mem_map.2 ⟨b, hb', e.symm⟩) hn.1
    · exact absurd (List.mem_map.2 ⟨a, ha', e⟩) hn.1
    · exact ih ha' hb' hn.2
theorem NL.sub {M : List En} (h : NL L) (hs : M.Sublist L) : NL M := ⟨Nat.le_trans hs.length_le h.len, h.srt.sublist hs, h.pid.sublist (hs.map _)⟩
theorem NL.out (h : NL L) (s : Str) : NL (outN L s) := h.sub List.filter_sublist
theorem perm_split (e : En) : ∀ L : List En, (insE e L).Perm (e :: L)
  | [] => by simp [insE]
  | x :: L => by
    have ih := perm_split e L
    unfold insE at ih ⊢
    by_cases hx : e.n < x.n
    · simp only [List.filter_cons, hx, decide_true, Bool.not_true, Bool.false_eq_true, if_false, if_true]
      refine List.Perm.trans ?_ (List.Perm.swap e x L)
      refine List.Perm.trans ?_ (ih.cons x)
      refine List.Perm.trans (l₂ := List.filter (fun x => !decide (e.n < x.n)) L ++ x :: e :: List.filter (fun x => decide (e.n < x.n)) L) ?_ List.perm_middle
      exact (List.Perm.swap x e _).append_left _
    · simp only [List.filter_cons, hx, decide_false, Bool.not_false, Bool.false_eq_true, if_false, if_true, List.cons_append]
      exact (ih.cons x).trans (List.Perm.swap e x L)
theorem NL.ins (h : NL L) {s : Str} {p : Int} (hlen : L.length < 64) (hn : L.any (isN s) = false) (hp : L.any (isP p) = false) : NL (insE ⟨s, p⟩ L) := by
  have hperm := perm_split ⟨s, p⟩ L
  have hn' : ∀ x ∈ L, x.n ≠ s := fun x hx e => by
    have := List.any_eq_false.1 hn x hx
    simp [isN, e] at this
  have hp' : ∀ x ∈ L, x.p ≠ p := fun x hx e => by
    have := List.any_eq_false.1 hp x hx
    simp [isP, e] at this
  refine ⟨by rw [hperm.length_eq]; simp; omega, ?_, ?_⟩
  · unfold insE
    rw [List.pairwise_append, List.pairwise_cons]
    refine ⟨h.srt.sublist List.filter_sublist, ⟨?_, h.srt.sublist List.filter_sublist⟩, ?_⟩
    · intro x hx
      have := (List.mem_filter.1 hx).2
      simpa using this
    · intro a ha b hb
      obtain ⟨ha1, ha2⟩ := List.mem_filter.1 ha
      have ha3 : a.n < s := by
        simp only [Bool.not_eq_true', decide_eq_false_iff_not] at ha2
        by_cases hlt : a.n < s
        · exact hlt
        · exact absurd (List.le_antisymm ha2 hlt) (hn' a ha1)
      rcases List.mem_cons.1 hb with rfl | hb
      · exact ha3
      · have hb2 := (List.mem_filter.1 hb).2
        exact List.lt_trans ha3 (by simpa using hb2)
  · rw [(hperm.map _).nodup_iff, List.map_cons, List.nodup_cons]
    exact ⟨fun hm => by obtain ⟨x, hx, e⟩ := List.mem_map.1 hm; exact hp' x hx e, h.pid⟩
theorem NL.add (h : NL L) (s : Str) (p : Int) : NL (add L s p).2 := by
  unfold YtocohlcmkbnegaaDoor.add
  repeat' split
  all_goals first | exact h | skip
  rename_i h1 h2 h3 h4
  simp only [Bool.or_eq_true, not_or, Bool.not_eq_true] at h3
  exact h.ins (by omega) h3.1 h3.2
theorem NL.drp (h : NL L) (s : Str) : NL (drp L s).2 := by
  unfold YtocohlcmkbnegaaDoor.drp
  split
  · exact h.out s
  · exact h
theorem NL.gon (h : NL L) (p : Int) : NL (gonL L p) := by
  unfold gonL
  split
  · exact h.out _
  · exact h
/-- Where the place lies, the list is as if sorted in. -/
theorem insE_at {e : En} {k : Nat} (h1 : ∀ x ∈ L.take k, ¬ e.n < x.n) (h2 : ∀ x ∈ L.drop k, e.n < x.n) : insE e L = L.take k ++ e :: L.drop k := by
  have e1 : L = L.take k ++ L.drop k := (List.take_append_drop k L).symm
  have a1 : L.filter (fun x => !decide (e.n < x.n)) = L.take k := by
    conv => lhs; rw [e1]
    rw [List.filter_append, List.filter_eq_self.2 (fun x hx => by simp [h1 x hx]), List.filter_eq_nil_iff.2 (fun x hx => by simp [h2 x hx]), List.append_nil]
  have a2 : L.filter (fun x => decide (e.n < x.n)) = L.drop k := by
    conv => lhs; rw [e1]
    rw [List.filter_append, List.filter_eq_nil_iff.2 (fun x hx => by simp [h1 x hx]), List.filter_eq_self.2 (fun x hx => by simp [h2 x hx]), List.nil_append]
  unfold insE
  rw [a1, a2]
theorem NL.take_le (h : NL L) {s : Str} {k : Nat} (hk : k ≤ L.length) (hs : ∀ (q : Nat) (x : En), k = q + 1 → L[q]? = some x → ¬ s < x.n) : ∀ x ∈ L.take k, ¬ s < x.n := by
  intro x hx
  obtain ⟨j, hj⟩ := List.mem_iff_getElem?.1 hx
  have hjk : j < k := by
    have := (List.getElem?_eq_some_iff.1 hj).1
    rw [List.length_take] at this; omega
  rw [List.getElem?_take_of_lt hjk] at hj
  obtain ⟨q, rfl⟩ : ∃ q, k = q + 1 := ⟨k - 1, by omega⟩
  obtain ⟨y, hy⟩ : ∃ y, L[q]? = some y := ⟨_, List.getElem?_eq_getElem (by omega)⟩
  have hsy := hs q y rfl hy
  by_cases e : j = q
  · subst e
    rw [hj] at hy; cases hy; exact hsy
  · intro hsx
    have hlt : x.n < y.n := by
      have := List.pairwise_iff_getElem.1 h.srt j q (by omega) (by omega) (by omega)
      rw [(List.getElem?_eq_some_iff.1 hj).2, (List.getElem?_eq_some_iff.1 hy).2] at this
      exact this
    exact hsy (List.lt_trans hsx hlt)
/-- An entry taken out by its place. -/
theorem NL.outAt (h : NL L) {k : Nat} {e : En} (he : L[k]? = some e) : L.eraseIdx k = outN L e.n := by
  have hlt := (List.getElem?_eq_some_iff.1 he).1
  have e1 : L = L.take k ++ e :: L.drop (k + 1) := by
    rw [← drop_cons he, List.take_append_drop]
  have hs := h.srt
  rw [e1, List.pairwise_append, List.pairwise_cons] at hs
  rw [List.eraseIdx_eq_take_drop_succ]
  unfold outN
  conv => rhs; rw [e1]
  rw [List.filter_append, List.filter_cons, if_neg (by simp [isN]), List.filter_eq_self.2, List.filter_eq_self.2]
  · intro x hx
    have := hs.2.1.1 x hx
    simp only [isN, Bool.not_eq_true', decide_eq_false_iff_not]
    intro e'; rw [e'] at this; exact List.lt_irrefl _ this
  · intro x hx
    have := hs.2.2 x hx e (by simp)
    simp only [isN, Bool.not_eq_true', decide_eq_false_iff_not]
    intro e'; rw [e'] at this; exact List.lt_irrefl _ this
theorem any_find {p : En → Bool} : L.any p = (L.find? p).isSome := by
  induction L with
  | nil => rfl
  | cons x L ih => cases hp : p x <;> simp [hp, ih]
end

/-! ### the program's two maps -/
structure NOk (L : List En) (es : List (Ent Str)) (cs : Nat) (en : List (Ent Int)) (cn : Nat) : Prop where
  ok : NL L
  ps : (es.map fun e => (e.1, e.2.1)).Perm (L.map fun x => (x.n, (.int .i64 x.p : Value)))
  pn : (en.map fun e => (e.1, e.2.1)).Perm (L.map fun x => (x.p, sv x.n))
  ss : Stamped es cs
  sn : Stamped en cn
theorem NOk.new : NOk [] [] 0 [] 0 := ⟨.nil, by simp, by simp, ⟨by simp, by simp⟩, ⟨by simp, by simp⟩⟩
section
variable {L : List En} {es : List (Ent Str)} {cs : Nat} {en : List (Ent Int)} {cn : Nat}
theorem NOk.pk (h : NOk L es cs en cn) : (keys es).Perm (L.map (·.n)) := by
  have := h.ps.map (·.1)
  simpa [keys, Function.comp_def] using this
theorem NOk.pq (h : NOk L es cs en cn) : (keys en).Perm (L.map (·.p)) := by
  have := h.pn.map (·.1)
  simpa [keys, Function.comp_def] using this
theorem NOk.ks (h : NOk L es cs en cn) : (keys es).Nodup := h.pk.nodup_iff.2 h.ok.nn
theorem NOk.kn (h : NOk L es cs en cn) : (keys en).Nodup := h.pq.nodup_iff.2 h.ok.pid
theorem NOk.lens (h : NOk L es cs en cn) : es.length = L.length := by have := h.ps.length_eq; simpa using this
theorem mem_pair {κ : Type} {es : List (Ent κ)} {k : κ} {v : Value} : (∃ c, (k, v, c) ∈ es) ↔ (k, v) ∈ es.map fun e => (e.1, e.2.1) := by
  rw [List.mem_map]
  constructor
  · rintro ⟨c, hc⟩; exact ⟨_, hc, rfl⟩
  · rintro ⟨⟨a, b, c⟩, hc, e⟩
    simp only [Prod.mk.injEq] at e
    obtain ⟨rfl, rfl⟩ := e
    exact ⟨c, hc⟩
theorem NOk.valS (h : NOk L es cs en cn) (s : Str) : (L.find? (isN s) = none ∧ L.any (isN s) = false ∧ valOf s es = none) ∨ ∃ e, e ∈ L ∧ e.n = s ∧ L.find? (isN s) = some e ∧ L.any (isN s) = true ∧ valOf s es = some (.int .i64 e.p) := by
  cases hf : L.find? (isN s) with
  | none =>
    refine .inl ⟨rfl, by rw [any_find, hf]; rfl, valOf_no fun e he hk => ?_⟩
    have hm : e.1 ∈ L.map (·.n) := h.pk.mem_iff.1 (List.mem_map.2 ⟨e, he, rfl⟩)
    obtain ⟨x, hx, ex⟩ := List.mem_map.1 hm
    have := List.find?_eq_none.1 hf x hx
    simp [isN, ex, hk] at this
  | some e =>
    have hm := List.mem_of_find?_eq_some hf
    have hn : e.n = s := by have := List.find?_some hf; simpa [isN] using this
    refine .inr ⟨e, hm, hn, rfl, by rw [any_find, hf]; rfl, ?_⟩
    rw [valOf_iff h.ks, mem_pair, h.ps.mem_iff, List.mem_map]
    exact ⟨e, hm, by rw [hn]⟩
theorem NOk.valP (h : NOk L es cs en cn) (p : Int) : (L.find? (isP p) = none ∧ L.any (isP p) = false ∧ valOf p en = none) ∨ ∃ e, e ∈ L ∧ e.p = p ∧ L.find? (isP p) = some e ∧ L.any (isP p) = true ∧ valOf p en = some (sv e.n) := by
  cases hf : L.find? (isP p) with
  | none =>
    refine .inl ⟨rfl, by rw [any_find, hf]; rfl, valOf_no fun e he hk => ?_⟩
    have hm : e.1 ∈ L.map (·.p) := h.pq.mem_iff.1 (List.mem_map.2 ⟨e, he, rfl⟩)
    obtain ⟨x, hx, ex⟩ := List.mem_map.1 hm
    have := List.find?_eq_none.1 hf x hx
    simp [isP, ex, hk] at this
  | some e =>
    have hm := List.mem_of_find?_eq_some hf
    have hn : e.p = p := by have := List.find?_some hf; simpa [isP] using this
    refine .inr ⟨e, hm, hn, rfl, by rw [any_find, hf]; rfl, ?_⟩
    rw [valOf_iff h.kn, mem_pair, h.pn.mem_iff, List.mem_map]
    exact ⟨e, hm, by rw [hn]⟩
theorem NOk.add (h : NOk L es cs en cn) {s : Str} {p : Int} (hlen : L.length < 64) (hn : L.any (isN s) = false) (hp : L.any (isP p) = false) : NOk (insE ⟨s, p⟩ L) (es ++ [(s, .int .i64 p, cs)]) (cs + 1) (en ++ [(p, sv s, cn)]) (cn + 1) := by
  refine ⟨h.ok.ins hlen hn hp, ?_, ?_, h.ss.add, h.sn.add⟩
  · refine List.Perm.trans ?_ ((perm_split ⟨s, p⟩ L).map _).symm
    rw [List.map_append, List.map_cons]
    exact List.perm_append_comm.trans (h.ps.cons _)
  · refine List.Perm.trans ?_ ((perm_split ⟨s, p⟩ L).map _).symm
    rw [List.map_append, List.map_cons]
    exact List.perm_append_comm.trans (h.pn.cons _)
theorem NOk.out (h : NOk L es cs en cn) {e : En} (he : e ∈ L) : NOk (outN L e.n) (delE e.n es) cs (delE e.p en) cn := by
  refine ⟨h.ok.out _, ?_, ?_, h.ss.del, h.sn.del⟩
  · rw [delE_filter h.ks]
    have := h.ps.filter fun q => decide (q.1 ≠ e.n)
    rw [List.filter_map, List.filter_map] at this
    have e2 : outN L e.n = L.filter ((fun q : Str × Value => decide (q.1 ≠ e.n)) ∘ fun x => (x.n, (.int .i64 x.p : Value))) := by
      unfold outN; congr 1; funext x; simp [isN]
    rw [e2]
    exact this
  · rw [delE_filter h.kn]
    have := h.pn.filter fun q => decide (q.1 ≠ e.p)
    rw [List.filter_map, List.filter_map] at this
    have e2 : outN L e.n = L.filter ((fun q : Int × Value => decide (q.1 ≠ e.p)) ∘ fun x => (x.p, sv x.n)) := by
      unfold outN
      apply List.filter_congr
      intro x hx
      simp only [isN, Function.comp]
      rw [Bool.eq_iff_iff]
      simp only [Bool.not_eq_true', decide_eq_false_iff_not, decide_eq_true_eq]
      exact ⟨fun hne hp => hne (by rw [h.ok.injP hx he hp]), fun hne hn => hne (by rw [h.ok.injN hx he hn])⟩
    rw [e2]
    exact this
theorem NOk.order (h : NOk L es cs en cn) {D : List (Ent Str)} (hD : ∀ x ∈ D, x ∈ es) (hN : D.Nodup) (hall : ∀ e ∈ es, e ∈ D) : srtS (D.map (·.1)) = L.map (·.n) := by
  have hp : D.Perm es := (List.perm_ext_iff_of_nodup hN (keys_inj h.ks)).2 fun a => ⟨hD a, hall a⟩
  exact srtS_perm ((hp.map _).trans h.pk) (List.pairwise_map.2 h.ok.srt)
theorem NOk.small (h : NOk L es cs en cn) : es.length ≤ 64 := by rw [h.lens]; exact h.ok.len
end
end Go.Proofs.YtocohlcmkbnegaaDoor
