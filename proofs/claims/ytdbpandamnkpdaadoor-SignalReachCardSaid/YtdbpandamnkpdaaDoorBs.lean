/-
  Slices that come in: their elements as a list.
-/
import Derived.Test.YtdbpandamnkpdaaDoorBr
import Derived.SizedLaws
import Derived.Deep.Slices
set_option linter.unusedSimpArgs false
set_option linter.unusedVariables false
namespace Go.Proofs.YtdbpandamnkpdaaDoor
open Go Go.RowKit Go.ChangeShapes Go.WideShapes

theorem trod_cells {H : Type} {enc : TypeId × Value → H} {P : Program} {w : World} {base : Nat} {spare : Nat → Bool} {held : Bool} {t : TypeId} {fs : Array Field} {cs : List Value} {n : Nat} {x : DataW H × List MemPlace} (ht : P.underlying t = some (.struct fs)) (h : DataW.trod enc P w base spare held n t cs = some x) :
    cs.length = P.cellsOf t ∧ ∀ (i : Nat) (f : Field), fs[i]? = some f → ∃ n x, DataW.trod enc P w base spare held n f.type ((cs.drop f.offset).take (P.cellsOf f.type)) = some x := by
  obtain ⟨xs, n', _, _, hl, hlen, hx⟩ := DataW.trod_struct ht h
  refine ⟨hl, fun i f hi => ?_⟩
  have h1 := hx i f hi
  have hlt : i < xs.length := by rw [hlen]; exact (Array.getElem?_eq_some_iff.1 hi).1
  exact ⟨n', xs[i], by rw [h1, List.getElem?_eq_getElem hlt]⟩

theorem cell_some {w : World} {b off : Nat} {v : Value} {s : Option Nat} (h : w.cell? ⟨b, off, s⟩ = some v) : s = none ∧ ∃ (l : List Value) (T : TypeId) (fz : Nat × Nat), w.heap[b]? = some (.cells l.toArray T fz) ∧ l[off]? = some v := by
  unfold World.cell? at h
  split at h
  · rename_i c T fz hb
    cases s with
    | some _ => simp at h
    | none => exact ⟨rfl, c.toList, T, fz, by simpa using hb, by simpa using h⟩
  · cases h

theorem add_none {b off : Nat} {s : Option Nat} {n : Nat} : ((⟨b, off, s⟩ : Addr).add n).block = b := by
  unfold Addr.add
  split <;> rfl

theorem open_rows {H : Type} {encT : TypeId × Value → H} {P : Program} {W : World} {sp : Nat → Bool} {held : Bool} {α : Type} {enc : α → List Value} {k : Nat} {t e T : TypeId} {v : Value} {d : DataW H} {ps : List MemPlace} (ht : P.underlying t = some (.slice e)) (hc : P.cellsOf e = k) (hk : 0 < k)
    (hE : ∀ a, (enc a).length = k) (hel : ∀ n cs x, DataW.trod encT P W 0 sp held n e cs = some x → ∃ a : α, cs = enc a) (hv1 : ∃ a len cap, v = .slice a len cap) (h : DataW.Trod encT P W 0 sp held t v d ps) :
    ∃ xs : List α, Els (fun w => w = W) v k enc T xs ∧ (xs = [] ∨ ∃ el spr, d = .slice el spr ∧ el.length = xs.length) := by
  obtain ⟨a1, len1, cap1, rfl⟩ := hv1
  obtain ⟨fuel, hf⟩ := h
  rcases Go.Deep.open_slice ht hf with ⟨hcs, hx⟩ | ⟨a, len, cap, m, n, D, Pl, hcs, hb, hl, hm, hmm, hx, hall⟩
  · have : (Value.slice a1 len1 cap1) = .slice none 0 0 := by simpa [Value.cells] using hcs
    rw [this]
    exact ⟨[], Els.nil, .inl rfl⟩
  · have : (Value.slice a1 len1 cap1) = .slice (some a) len cap := by simpa [Value.cells] using hcs
    rw [this]
    have hle : len ≤ m := by rw [hmm]; split <;> omega
    have key : ∀ i, i < len → ∃ y : α, W.cells? 0 (a.add (i * P.cellsOf e)) (P.cellsOf e) = some (enc y) := fun i hi => by
      obtain ⟨cs', h1, h2⟩ := hall i (by omega)
      obtain ⟨y, rfl⟩ := hel n cs' _ h2
      exact ⟨y, h1⟩
    -- the list
    have hlist : ∀ m, m ≤ len → ∃ xs : List α, xs.length = m ∧ ∀ j x, xs[j]? = some x → W.cells? 0 (a.add (j * P.cellsOf e)) (P.cellsOf e) = some (enc x) := by
      intro m
      induction m with
      | zero => exact fun _ => ⟨[], rfl, fun j x hx => by simp at hx⟩
      | succ m ih =>
        intro hm'
        obtain ⟨xs, h1, h2⟩ := ih (by omega)
        obtain ⟨y, hy⟩ := key m (by omega)
        refine ⟨xs ++ [y], by simp [h1], fun j x hx => ?_⟩
        rcases Nat.lt_or_ge j m with hj | hj
        · rw [List.getElem?_append_left (by omega)] at hx; exact h2 j x hx
        · rw [List.getElem?_append_right (by omega), h1] at hx
          have : j = m := by
            have := (List.getElem?_eq_some_iff.1 hx).1
            simp at this; omega
          subst this
          simp at hx
          rw [← hx]; exact hy
    obtain ⟨xs, hxl, hxs⟩ := hlist len (Nat.le_refl _)
    refine ⟨xs, ⟨⟨some a, cap, by rw [hxl]⟩, fun j x hj => ?_⟩, .inr ⟨_, _, (Prod.mk.injEq _ _ _ _ ▸ hx).1, by simp [hxl]⟩⟩
    have h1 := hxs j x hj
    have hjl : j < len := by rw [← hxl]; exact (List.getElem?_eq_some_iff.1 hj).1
    obtain ⟨_, _, h2⟩ := World.cells?_some h1
    rw [hc] at h1 h2
    obtain ⟨b, off, s⟩ := a
    have hadd0 : ∀ z : Addr, z.add 0 = z := fun z => by cases z; simp [Addr.add]
    have hsn : s = none := by
      obtain ⟨y, hy⟩ := key 0 (by omega)
      obtain ⟨_, _, h3⟩ := World.cells?_some hy
      rw [hc] at h3
      have h4 := h3 0 hk
      rw [Nat.zero_mul, hadd0, hadd0, List.getElem?_eq_getElem (by rw [hE]; exact hk)] at h4
      exact (cell_some h4).1
    have hfirst := h2 0 hk
    rw [hadd0, List.getElem?_eq_getElem (by rw [hE]; exact hk)] at hfirst
    subst hsn
    rw [addr_add] at hfirst h2
    obtain ⟨_, l, T', fz, hb', _⟩ := cell_some hfirst
    refine ⟨b, off, len, cap, l, T', fz, rfl, hjl, fun w hw => by rw [hw]; exact hb', cellsAt_of fun i hi => ?_⟩
    have hi' : i < k := by rw [hE] at hi; exact hi
    have h3 := h2 i hi'
    rw [addr_add] at h3
    have h4 : (enc x)[i]? = some ((enc x)[i]) := List.getElem?_eq_getElem hi
    rw [h4] at h3
    obtain ⟨_, l', T2, fz2, hb2, hl2⟩ := cell_some h3
    rw [hb'] at hb2
    simp only [Option.some.injEq, Obj.cells.injEq] at hb2
    have : l = l' := by simpa using hb2.1
    rw [this, hl2, h4]
end Go.Proofs.YtdbpandamnkpdaaDoor
