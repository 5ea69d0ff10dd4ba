/-
  A library's sort over a row of one's own: what its contract says, in this text's words.
-/
import Derived.Test.YtdbpandamnkpdaaDoorBj
import Derived.Sort.Grow
set_option linter.unusedSimpArgs false
set_option linter.unusedVariables false
namespace Go.Proofs.YtdbpandamnkpdaaDoor
open Go Go.RowKit

theorem St.grow {w0 w : World} {H} (h : St w0 w H) (os : Array Obj) : St w0 (Go.Sort.grow w os) H := by
  have old : ∀ k : Nat, k < w.heap.size → (Go.Sort.grow w os).heap[k]? = w.heap[k]? := fun k hk => Go.Sort.heap_grow_old w os hk
  refine ⟨⟨h.base.os, h.base.tape, h.base.output, ?_, ?_⟩, h.nodup, ?_⟩
  · have := h.base.size
    rw [Go.Sort.size_grow]; omega
  · intro k hk
    have := h.base.size
    rw [old k (by omega)]
    exact h.base.block k hk
  · intro x hx
    obtain ⟨h1, h2⟩ := h.at_ x hx
    exact ⟨h1, (old _ (heap_lt h2)).trans h2⟩

def one {α : Type} (e : α → Value) (x : α) : List Value := [e x]
theorem rowOf_map {α : Type} (e : α → Value) (xs : List α) : rowOf (one e) xs = xs.map e := by
  induction xs with
  | nil => rfl
  | cons x xs ih => rw [rowOf_cons, ih]; rfl
theorem one_enc {α : Type} {e : α → Value} (h : ∀ x, (e x).oneCell' = true) : Enc 1 (one e) := fun x => ⟨rfl, by
  intro u hu
  rw [one, List.mem_singleton] at hu
  rw [hu]; exact h x⟩

theorem St.putRow {α : Type} [Inhabited α] {e : α → Value} {w0 w : World} {R : List Chunk} {b T : Nat} {pre spare : List Value} {xs ys : List α} (h : St w0 w ([(b, .cells (pre ++ (rowOf (one e) xs ++ spare)).toArray T (0, 0))] :: R)) (hl : ys.length = xs.length) :
    St w0 (Go.Sort.putRow e w b pre.length ys.toArray) ([(b, .cells (pre ++ (rowOf (one e) ys ++ spare)).toArray T (0, 0))] :: R) := by
  have hb := h.has .hd
  have hlt := heap_lt hb
  have hc : Go.Sort.putCells e pre.length ys.toArray (pre ++ (rowOf (one e) xs ++ spare)).toArray = (pre ++ (rowOf (one e) ys ++ spare)).toArray := by
    apply Array.ext_getElem?
    intro k
    unfold Go.Sort.putCells
    rw [Array.getElem?_mapIdx]
    simp only [List.getElem?_toArray, rowOf_map]
    by_cases h1 : k < pre.length
    · rw [List.getElem?_append_left h1, List.getElem?_append_left h1]
      rw [List.getElem?_eq_getElem h1]
      simp only [Option.map_some]
      rw [if_neg (by omega)]
    · have e1 : ∀ zs : List Value, (pre ++ zs)[k]? = zs[k - pre.length]? := fun zs => List.getElem?_append_right (by omega)
      rw [e1, e1]
      by_cases h2 : k - pre.length < xs.length
      · have e2 : ∀ zs : List α, zs.length = xs.length → (zs.map e ++ spare)[k - pre.length]? = (zs[k - pre.length]?).map e := fun zs hz => by
          rw [List.getElem?_append_left (by rw [List.length_map, hz]; exact h2), List.getElem?_map]
        rw [e2 xs rfl, e2 ys hl, List.getElem?_eq_getElem h2, List.getElem?_eq_getElem (by omega : k - pre.length < ys.length)]
        simp only [Option.map_some]
        rw [if_pos (by simp; omega)]
        congr 2
        rw [getElem!_pos _ _ (by simp; omega)]
        simp
      · have e2 : ∀ zs : List α, zs.length = xs.length → (zs.map e ++ spare)[k - pre.length]? = spare[k - pre.length - xs.length]? := fun zs hz => by
          rw [List.getElem?_append_right (by rw [List.length_map, hz]; omega), List.length_map, hz]
        rw [e2 xs rfl, e2 ys hl]
        cases hs : spare[k - pre.length - xs.length]? with
        | none => rfl
        | some v =>
          simp only [Option.map_some]
          rw [if_neg (by simp; omega)]
  have hw : Go.Sort.putRow e w b pre.length ys.toArray = w.putObj b (.cells (pre ++ (rowOf (one e) ys ++ spare)).toArray T (0, 0)) := by
    unfold Go.Sort.putRow Go.Sort.mapBlock World.putObj
    congr 1
    apply Array.ext_getElem?
    intro k
    rw [Array.getElem?_modify, Array.getElem?_setIfInBounds]
    by_cases hk : b = k
    · subst hk
      rw [if_pos rfl, if_pos rfl, if_pos hlt, hb, Option.map_some]
      simp only [Go.Sort.onCells, hc]
    · rw [if_neg hk, if_neg hk]
  rw [hw]
  exact h.upd .hd

theorem St.holds {α : Type} [Inhabited α] {e : α → Value} {w0 w : World} {R : List Chunk} {b T : Nat} {pre spare : List Value} {xs : List α} (h : St w0 w ([(b, .cells (pre ++ (rowOf (one e) xs ++ spare)).toArray T (0, 0))] :: R)) :
    Go.Sort.Holds e w b pre.length xs.toArray := by
  have hb := h.has .hd
  intro j hj
  have hj' : j < xs.length := by simpa using hj
  constructor
  · simp only [World.cell?, hb, List.getElem?_toArray, rowOf_map]
    rw [List.getElem?_append_right (by omega), Nat.add_sub_cancel_left, List.getElem?_append_left (by simpa using hj'), List.getElem?_map, List.getElem?_eq_getElem hj', Option.map_some]
    rw [getElem!_pos _ _ (by simpa using hj)]
    simp
  · simp [World.frozen?, hb]

/-- The contract of a sort, for a slice of one's own. -/
theorem sort_own {α : Type} [Inhabited α] {P : Program} {e : α → Value} {f : FuncId} {le : α → α → Bool} {T : TypeId} (hsort : ∀ (blk off cap : Nat) (zs : List α) (w : World), Go.Sort.Holds e w blk off zs.toArray → blk < w.heap.size → zs.length < 4611686018427387904 →
      Calls P f #[.slice (some ⟨blk, off, none⟩) zs.length cap] w fun en w' => en = .returned (.tuple #[]) ∧ ∃ n os, w' = Go.Sort.grow (Go.Sort.putRow e (Go.Sort.ahead w n) blk off (zs.mergeSort le).toArray) os)
    (hnone : ∀ (p : Option Addr) (cap : Nat) (w : World), Calls P f #[.slice p 0 cap] w fun en w' => en = .returned (.tuple #[]) ∧ w' = w)
    {w0 w : World} {R : List Chunk} {v : Value} {xs : List α} {C : Chunk} (hv : Sl T 1 (one e) v xs C) (hst : St w0 w (C :: R)) (hsz : xs.length < 4611686018427387904) :
    Calls P f #[v] w (Post1 w0 R fun u C' => u = .tuple #[] ∧ Sl T 1 (one e) v (xs.mergeSort le) C') := by
  rcases hv with ⟨rfl, rfl, rfl⟩ | ⟨b, off, cap, pre, spare, rfl, rfl, rfl, h1, h2⟩
  · refine (hnone none 0 w).mono ?_
    rintro en w' ⟨rfl, rfl⟩
    exact Post1.mk hst ⟨rfl, by simpa using (Sl.nil (T := T) (n := 1) (enc := one e))⟩ (.refl _)
  · refine (hsort b pre.length cap xs w hst.holds (heap_lt (hst.has .hd)) hsz).mono ?_
    rintro en w' ⟨rfl, n, os, rfl⟩
    have hl : (xs.mergeSort le).length = xs.length := List.length_mergeSort xs
    have hs := ((hst.drawn (w.drawn + n)).putRow hl).grow os
    refine Post1.mk hs ⟨rfl, .inr ⟨b, pre.length, cap, pre, spare, by rw [hl], rfl, rfl, by rw [hl]; exact h1, by rw [hl]; exact h2⟩⟩ (.refl _)
end Go.Proofs.YtdbpandamnkpdaaDoor
