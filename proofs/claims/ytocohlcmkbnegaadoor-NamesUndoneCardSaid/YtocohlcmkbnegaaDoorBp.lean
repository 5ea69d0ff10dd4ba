/-
  Entries with keys of their own; lists that grow by one; a list in its order.
-/
import Derived.Test.YtocohlcmkbnegaaDoorBm
set_option linter.unusedSimpArgs false
set_option linter.unusedVariables false
namespace Go.Proofs.YtocohlcmkbnegaaDoor
open Go Go.RowKit

/-! ### entries with keys of their own -/
section
variable {κ : Type} [DecidableEq κ]
def keys (es : List (Ent κ)) : List κ := es.map (·.1)
theorem place_isSome {k : κ} {es : List (Ent κ)} (h : ∃ e ∈ es, e.1 = k) : (place k es 0).isSome := by
  cases hp : place k es 0 with
  | some _ => rfl
  | none => obtain ⟨e, he, hk⟩ := h; exact absurd hk (place_none hp e he)
theorem valOf_iff {k : κ} {v : Value} {es : List (Ent κ)} (hn : (keys es).Nodup) : valOf k es = some v ↔ ∃ c, (k, v, c) ∈ es := by
  constructor
  · intro h
    obtain ⟨i, hp⟩ := valOf_some h
    obtain ⟨e, h1, h2, h3⟩ := place_some hp
    refine ⟨e.2.2, ?_⟩
    rw [← h2, ← h3]
    exact List.mem_of_getElem? h1
  · rintro ⟨c, hc⟩
    have := place_isSome (k := k) ⟨_, hc, rfl⟩
    cases hp : place k es 0 with
    | none => rw [hp] at this; cases this
    | some q =>
      obtain ⟨i, u⟩ := q
      obtain ⟨e, h1, h2, h3⟩ := place_some hp
      have he := List.mem_of_getElem? h1
      have hinj : ∀ {l : List (Ent κ)}, (keys l).Nodup → ∀ {x y}, x ∈ l → y ∈ l → x.1 = y.1 → x = y := by
        intro l
        induction l with
        | nil => intro _ x y hx; cases hx
        | cons z l ih =>
          intro hn x y hx hy e
          simp only [keys, List.map_cons, List.nodup_cons] at hn
          rcases List.mem_cons.1 hx with rfl | hx' <;> rcases List.mem_cons.1 hy with rfl | hy'
          · rfl
          · exact absurd (List.mem_map.2 ⟨y, hy', e.symm⟩) hn.1
          · exact absurd (List.mem_map.2 ⟨x, hx', e⟩) hn.1
          · exact ih hn.2 hx' hy' e
      have := hinj hn he hc h2
      unfold valOf
      rw [hp, Option.map_some, ← h3, this]
theorem valOf_no {k : κ} {es : List (Ent κ)} (h : ∀ e ∈ es, e.1 ≠ k) : valOf k es = none := by
  cases hv : valOf k es with
  | none => rfl
  | some v =>
    obtain ⟨i, hp⟩ := valOf_some hv
    obtain ⟨e, h1, h2, h3⟩ := place_some hp
    exact absurd h2 (h e (List.mem_of_getElem? h1))
theorem delE_sub {k : κ} : ∀ {es : List (Ent κ)}, (delE k es).Sublist es
  | [] => .slnil
  | e :: es => by
    unfold delE
    split
    · exact List.sublist_cons_self _ _
    · exact delE_sub.cons_cons e
theorem delE_keys {k : κ} {es : List (Ent κ)} (h : (keys es).Nodup) : (keys (delE k es)).Nodup := h.sublist (delE_sub.map _)
theorem mem_delE {k : κ} {x : Ent κ} : ∀ {es : List (Ent κ)}, (keys es).Nodup → (x ∈ delE k es ↔ x ∈ es ∧ x.1 ≠ k)
  | [], _ => by simp [delE]
  | e :: es, h => by
    simp only [keys, List.map_cons, List.nodup_cons] at h
    unfold delE
    split
    · rename_i hk
      constructor
      · intro hx
        refine ⟨List.mem_cons_of_mem _ hx, fun e' => h.1 (List.mem_map.2 ⟨x, hx, by rw [e', hk]⟩)⟩
      · rintro ⟨hx, hne⟩
        rcases List.mem_cons.1 hx with rfl | hx
        · exact absurd hk.symm hne
        · exact hx
    · rename_i hk
      rw [List.mem_cons, List.mem_cons, mem_delE h.2]
      constructor
      · rintro (rfl | ⟨hx, hne⟩)
        · exact ⟨.inl rfl, fun e' => hk e'.symm⟩
        · exact ⟨.inr hx, hne⟩
      · rintro ⟨rfl | hx, hne⟩
        · exact .inl rfl
        · exact .inr ⟨hx, hne⟩
end

theorem delE_filter {κ : Type} [DecidableEq κ] {k : κ} : ∀ {es : List (Ent κ)}, (keys es).Nodup → delE k es = es.filter fun e => decide (e.1 ≠ k)
  | [], _ => rfl
  | e :: es, h => by
    simp only [keys, List.map_cons, List.nodup_cons] at h
    unfold delE
    split
    · rename_i hk
      have : es.filter (fun x => decide (x.1 ≠ k)) = es := List.filter_eq_self.2 fun x hx => by
        simp only [decide_eq_true_eq]
        exact fun e' => h.1 (List.mem_map.2 ⟨x, hx, by rw [e', hk]⟩)
      rw [List.filter_cons, if_neg (by simp [hk]), this]
    · rename_i hk
      have hk' : e.1 ≠ k := fun e' => hk e'.symm
      simp only [List.filter_cons, hk', ne_eq, not_false_eq_true, decide_true, if_true]
      rw [delE_filter h.2]

theorem Stamped.del {κ : Type} [DecidableEq κ] {k : κ} {es : List (Ent κ)} {c : Nat} (h : Stamped es c) : Stamped (delE k es) c :=
  ⟨h.1.sublist (delE_sub.map _), fun e he => h.2 e (delE_sub.subset he)⟩
theorem Stamped.add {κ : Type} {k : κ} {v : Value} {es : List (Ent κ)} {c : Nat} (h : Stamped es c) : Stamped (es ++ [(k, v, c)]) (c + 1) := by
  refine ⟨?_, ?_⟩
  · rw [List.map_append, List.nodup_append]
    refine ⟨h.1, by simp, ?_⟩
    intro x hx y hy
    obtain ⟨e, he, rfl⟩ := List.mem_map.1 hx
    have := h.2 e he
    simp only [List.map_cons, List.map_nil, List.mem_singleton] at hy
    omega
  · intro e he
    rcases List.mem_append.1 he with he | he
    · have := h.2 e he; omega
    · rw [List.mem_singleton.1 he]; show c < c + 1; omega


theorem keys_inj {κ : Type} [DecidableEq κ] {es : List (Ent κ)} (h : (keys es).Nodup) : es.Nodup := List.Pairwise.of_map (·.1) (fun a b hab e => hab (by rw [e])) h
theorem nodup_snoc {α : Type} {l : List α} {x : α} (h : l.Nodup) (hx : x ∉ l) : (l ++ [x]).Nodup := by
  rw [List.nodup_append]
  exact ⟨h, by simp, fun a ha b hb => by rw [List.mem_singleton.1 hb]; exact fun e => hx (e ▸ ha)⟩
theorem nodup_len {α : Type} {l m : List α} (h : l.Nodup) (hs : ∀ x ∈ l, x ∈ m) : l.length ≤ m.length := h.length_le_of_subset hs
theorem nodup_room {α : Type} {l m : List α} {x : α} (h : l.Nodup) (hs : ∀ x ∈ l, x ∈ m) (hx : x ∈ m) (hn : x ∉ l) : l.length < m.length := by
  have := nodup_len (nodup_snoc h hn) (m := m) (fun y hy => (List.mem_append.1 hy).elim (hs y) fun h' => List.mem_singleton.1 h' ▸ hx)
  rw [List.length_append] at this
  simp only [List.length_singleton] at this
  omega
theorem Le.nilC {H : List Chunk} : Le ([] :: H) H := ⟨[], by simp⟩
theorem take_snoc {α : Type} {l : List α} {i : Nat} {x : α} (h : l[i]? = some x) : l.take (i + 1) = l.take i ++ [x] := by rw [List.take_add_one, h]; rfl
theorem drop_cons {α : Type} {l : List α} {i : Nat} {x : α} (hx : l[i]? = some x) : l.drop i = x :: l.drop (i + 1) := by
  have hlt := (List.getElem?_eq_some_iff.1 hx).1
  rw [← (List.getElem?_eq_some_iff.1 hx).2, ← List.drop_eq_getElem_cons hlt]
theorem encI_ok : Enc 1 (one (Value.int .i64)) := one_enc fun _ => rfl
theorem encS_ok : Enc 1 (one sv) := one_enc fun _ => rfl
/-- The first place of what passes; -1: nothing does. -/
def posA {α : Type} (p : α → Bool) : List α → Int → Int
  | [], _ => -1
  | x :: l, i => if p x = true then i else posA p l (i + 1)
def pos {α : Type} (p : α → Bool) (L : List α) : Int := posA p L 0
section
variable {α : Type} {p : α → Bool} {L : List α}
theorem posA_yes {i : Nat} {x : α} (hx : L[i]? = some x) (hp : p x = true) : posA p (L.drop i) i = i := by rw [drop_cons hx]; simp [posA, hp]
theorem posA_no {i : Nat} {x : α} (hx : L[i]? = some x) (hp : p x = false) : posA p (L.drop i) i = posA p (L.drop (i + 1)) ((i + 1 : Nat) : Int) := by rw [drop_cons hx]; simp [posA, hp]
theorem posA_end {i : Nat} (hi : L.length ≤ i) : posA p (L.drop i) i = -1 := by rw [List.drop_eq_nil_of_le hi]; rfl
theorem posA_ge : ∀ {L : List α} {i : Int}, (posA p L i = -1 ∧ L.find? p = none ∧ ∀ x ∈ L, p x = false) ∨ ∃ k : Nat, posA p L i = i + k ∧ ∃ x, L[k]? = some x ∧ p x = true ∧ L.find? p = some x
  | [], i => .inl ⟨rfl, rfl, by simp⟩
  | x :: l, i => by
    cases hp : p x with
    | true => exact .inr ⟨0, by simp [posA, hp], x, rfl, hp, by simp [hp]⟩
    | false =>
      rcases posA_ge (L := l) (i := i + 1) with ⟨h1, h2, h3⟩ | ⟨k, h1, y, h2, h3, h4⟩
      · refine .inl ⟨by simp [posA, hp, h1], by simp [hp, h2], ?_⟩
        intro z hz
        rcases List.mem_cons.1 hz with rfl | hz
        · exact hp
        · exact h3 z hz
      · exact .inr ⟨k + 1, by simp [posA, hp, h1]; omega, y, by simpa using h2, h3, by simp [hp, h4]⟩
theorem pos_cases : (pos p L = -1 ∧ L.find? p = none ∧ ∀ x ∈ L, p x = false) ∨ ∃ (k : Nat) (x : α), pos p L = (k : Int) ∧ L[k]? = some x ∧ p x = true ∧ L.find? p = some x := by
  rcases posA_ge (p := p) (L := L) (i := 0) with h | ⟨k, h1, x, h2, h3, h4⟩
  · exact .inl h
  · exact .inr ⟨k, x, by unfold pos; omega, h2, h3, h4⟩
end
theorem Els.take {α : Type} {S : World → Prop} {a : Option Addr} {n cap k : Nat} {enc : α → List Value} {T : TypeId} {xs : List α} (h : Els S (.slice a n cap) k enc T xs) {j : Nat} (hj : j ≤ xs.length) : Els S (.slice a j cap) k enc T (xs.take j) := by
  refine ⟨⟨a, cap, by rw [List.length_take, Nat.min_eq_left hj]⟩, fun i x hx => ?_⟩
  have hi : i < j := by
    have := (List.getElem?_eq_some_iff.1 hx).1
    rw [List.length_take] at this; omega
  rw [List.getElem?_take_of_lt hi] at hx
  obtain ⟨b, off, len, cp, l, T', fz, e, hl, hb, hc⟩ := h.2 i x hx
  cases e
  exact ⟨b, off, j, _, l, T', fz, rfl, hi, hb, hc⟩
theorem Sl.capOk {α : Type} {T n : Nat} {enc : α → List Value} {a : Option Addr} {len cap : Nat} {xs : List α} {C : Chunk} (h : Sl T n enc (.slice a len cap) xs C) : xs.length ≤ cap := by
  obtain ⟨_, _, e, h1, _⟩ := h.len
  cases e; exact h1
theorem Sl.spotOk {α : Type} {T n : Nat} {enc : α → List Value} {a : Option Addr} {len cap : Nat} {xs : List α} {C : Chunk} (h : Sl T n enc (.slice a len cap) xs C) : ∀ p, a = some p → p.spot = none := by
  obtain ⟨_, _, e, _, h2⟩ := h.len
  cases e; exact h2
theorem beq_same (b : Bool) : Value.bool (b == b) = Value.bool true := by cases b <;> rfl
/-- A list of texts, in order. -/
def srtS (xs : List Str) : List Str := xs.mergeSort fun x y => decide (x ≤ y)
theorem srtS_perm {l m : List Str} (h : l.Perm m) (hm : m.Pairwise fun x y => x < y) : srtS l = m := by
  refine List.Perm.eq_of_pairwise (le := fun a b => decide (a ≤ b) = true) (fun a b _ _ h1 h2 => ?_) (List.pairwise_mergeSort (fun a b c h1 h2 => ?_) (fun a b => ?_) l) (hm.imp fun h => ?_) ((List.mergeSort_perm l _).trans h)
  · simp only [decide_eq_true_eq] at h1 h2; exact List.le_antisymm h1 h2
  · simp only [decide_eq_true_eq] at h1 h2 ⊢; exact List.le_trans h1 h2
  · simp only [Bool.or_eq_true, decide_eq_true_eq]; exact List.le_total a b
  · simp only [decide_eq_true_eq]; exact List.le_of_lt h
end Go.Proofs.YtocohlcmkbnegaaDoor
