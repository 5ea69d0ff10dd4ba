/-
  The symbolic execution used by every walk of this claim: frames as association lists, memory as a list of owned blocks, and rules for code.
-/
import Derived.WalkKit
import Derived.RangeFuncLeaves
import Derived.RangeFuncRecord
import Derived.TacticsIn
namespace Go.Proofs.YtdbpandamnkpdaaDoor
open Go Go.RowKit

abbrev Chunk := List (Nat × Obj)
abbrev Fl := List (Nat × Value)

def flGet : Fl → Nat → Option Value
  | [], _ => none
  | p :: r, t => cond (Nat.beq p.1 t) (some p.2) (flGet r t)

theorem beq_no {a b : Nat} (h : a ≠ b) : Nat.beq a b = false := by
  cases e : Nat.beq a b with
  | false => rfl
  | true => exact absurd (Nat.eq_of_beq_eq_true e) h

def ev (L : Fl) : Operand → Option Value
  | .tmp t => flGet L t
  | .const v => some v
  | .global g => some (.pointer (some ⟨g, 0, none⟩))
  | .func f => some (.func (.func f) #[] #[])

structure Fr (a : Act) (D : List Deferred) (N : Nat) (L : Fl) : Prop where
  defers : a.defers = D
  size : a.tmps.size = N
  get : ∀ t v, flGet L t = some v → a.tmps[t]? = some v

theorem Fr.tmp {a : Act} {D N L t v} (h : Fr a D N L) (e : flGet L t = some v) : a.tmps.getD t undef = v := by
  have := h.get t v e
  simp [Array.getD_eq_getD_getElem?, this]

theorem Fr.ev {a : Act} {D N L} {x : Operand} {v : Value} (h : Fr a D N L) (e : ev L x = some v) : a.eval x = v := by
  cases x with
  | tmp t => exact h.tmp e
  | const u => simp only [YtdbpandamnkpdaaDoor.ev, Option.some.injEq] at e; exact e
  | global g => simp only [YtdbpandamnkpdaaDoor.ev, Option.some.injEq] at e; exact e
  | func f => simp only [YtdbpandamnkpdaaDoor.ev, Option.some.injEq] at e; exact e

theorem Fr.put {a : Act} {D N L} (h : Fr a D N L) {d : Nat} (hd : Nat.blt d N = true) (v : Value) : Fr (a.put (some d) v) D N ((d, v) :: L) := by
  have hd' : d < a.tmps.size := by rw [h.size]; simpa [Nat.blt_eq] using hd
  refine ⟨h.defers, by simp [Act.put, h.size], ?_⟩
  intro t u e
  by_cases ht : d = t
  · subst ht
    have : Nat.beq d d = true := Nat.beq_refl d
    simp only [flGet, this, cond_true, Option.some.injEq] at e
    subst e
    simp [Act.put, hd']
  · have hb : Nat.beq d t = false := beq_no ht
    simp only [flGet, hb, cond_false] at e
    simp [Act.put, Array.getElem?_setIfInBounds_ne ht, h.get t u e]

def Sub : Fl → Fl → Prop
  | [], _ => True
  | p :: r, L => flGet L p.1 = some p.2 ∧ Sub r L

theorem Sub.get {L L' : Fl} (h : Sub L' L) : ∀ t v, flGet L' t = some v → flGet L t = some v := by
  induction L' with
  | nil => intro t v e; simp [flGet] at e
  | cons p r ih =>
    intro t v e
    obtain ⟨h1, h2⟩ := h
    by_cases ht : p.1 = t
    · subst ht
      have : Nat.beq p.1 p.1 = true := Nat.beq_refl _
      simp only [flGet, this, cond_true, Option.some.injEq] at e
      rw [h1, e]
    · have hb : Nat.beq p.1 t = false := beq_no ht
      simp only [flGet, hb, cond_false] at e
      exact ih h2 t v e

theorem Fr.weak {a : Act} {D N L L'} (h : Fr a D N L) (hs : Sub L' L) : Fr a D N L' :=
  ⟨h.defers, h.size, fun t v e => h.get t v (hs.get t v e)⟩

/-! ### memory -/
structure St (w0 w : World) (H : List Chunk) : Prop where
  base : Below w0.heap.size w0 w
  nodup : (H.flatten.map (·.1)).Nodup
  at_ : ∀ x ∈ H.flatten, w0.heap.size ≤ x.1 ∧ w.heap[x.1]? = some x.2

theorem St.refl (w : World) : St w w [] := ⟨Below.refl _ _, by simp, by simp⟩

theorem heap_lt {w : World} {b : Nat} {o : Obj} (h : w.heap[b]? = some o) : b < w.heap.size := (Array.getElem?_eq_some_iff.1 h).1

theorem St.old {w0 w : World} {H} (h : St w0 w H) {b : Nat} {o : Obj} (hb : w0.heap[b]? = some o) : w.heap[b]? = some o :=
  (h.base.block b (heap_lt hb)).trans hb

theorem St.perm {w0 w : World} {H H' : List Chunk} (h : St w0 w H) (hp : H'.flatten.Perm H.flatten) : St w0 w H' :=
  ⟨h.base, (hp.map _).nodup_iff.2 h.nodup, fun x hx => h.at_ x (hp.mem_iff.1 hx)⟩

theorem St.drop {w0 w : World} {C : Chunk} {H : List Chunk} (h : St w0 w (C :: H)) : St w0 w H := by
  refine ⟨h.base, ?_, fun x hx => h.at_ x (by simp only [List.flatten_cons]; exact List.mem_append_right _ hx)⟩
  have := h.nodup
  simp only [List.flatten_cons, List.map_append] at this
  exact (List.nodup_append.1 this).2.1

theorem St.keep {w0 w : World} {H K : List Chunk} (h : St w0 w (H ++ K)) : St w0 w H := by
  refine ⟨h.base, ?_, fun x hx => h.at_ x (by rw [List.flatten_append]; exact List.mem_append_left _ hx)⟩
  have := h.nodup
  rw [List.flatten_append, List.map_append] at this
  exact (List.nodup_append.1 this).1

theorem St.alloc {w0 w : World} {H} (h : St w0 w H) (o : Obj) : St w0 (w.alloc o) ([(w.heap.size, o)] :: H) := by
  refine ⟨h.base.alloc h.base.size _, ?_, ?_⟩
  · simp only [List.flatten_cons, List.map_cons, List.singleton_append, List.nodup_cons]
    refine ⟨?_, h.nodup⟩
    intro hm
    obtain ⟨x, hx, e⟩ := List.mem_map.1 hm
    have := heap_lt (h.at_ x hx).2
    omega
  · intro x hx
    simp only [List.flatten_cons, List.singleton_append, List.mem_cons] at hx
    rcases hx with rfl | hx
    · exact ⟨h.base.size, World.alloc_heap_new _ _⟩
    · obtain ⟨h1, h2⟩ := h.at_ x hx
      exact ⟨h1, (Below.heap_alloc _ _ _ (heap_lt h2)).trans h2⟩

theorem St.drew {w0 w : World} {H} (h : St w0 w H) : St w0 w.drew H := ⟨h.base.drew, h.nodup, h.at_⟩
theorem St.drawn {w0 w : World} {H} (h : St w0 w H) (n : Nat) : St w0 { w with drawn := n } H :=
  ⟨⟨h.base.os, h.base.tape, h.base.output, h.base.size, h.base.block⟩, h.nodup, h.at_⟩

theorem nodup_key : ∀ {l : List (Nat × Obj)}, (l.map (·.1)).Nodup → ∀ {x y}, x ∈ l → y ∈ l → x.1 = y.1 → x = y
  | [], _, _, _, hx, _, _ => by cases hx
  | z :: l, hn, x, y, hx, hy, e => by
    simp only [List.map_cons, List.nodup_cons] at hn
    rcases List.mem_cons.1 hx with rfl | hx' <;> rcases List.mem_cons.1 hy with rfl | hy'
    · rfl
    · exact absurd (List.mem_map.2 ⟨y, hy', e.symm⟩) hn.1
    · exact absurd (List.mem_map.2 ⟨x, hx', e⟩) hn.1
    · exact nodup_key hn.2 hx' hy' e

/-- Where a block lies among the owned ones. -/
inductive Has : List Chunk → Nat → Obj → Prop
  | hd {b o r R} : Has (((b, o) :: r) :: R) b o
  | tlb {b o x r R} : Has (r :: R) b o → Has ((x :: r) :: R) b o
  | tlc {b o C R} : Has R b o → Has (C :: R) b o

theorem Has.mem {H b o} (h : Has H b o) : (b, o) ∈ H.flatten := by
  induction h with
  | hd => simp
  | tlb _ ih => simp only [List.flatten_cons, List.cons_append, List.mem_cons] at ih ⊢; exact .inr ih
  | tlc _ ih => simp only [List.flatten_cons, List.mem_append]; exact .inr ih

/-- .. and what the list is when that block is turned. -/
inductive Upd : List Chunk → Nat → Obj → Obj → List Chunk → Prop
  | hd {b o o' r R} : Upd (((b, o) :: r) :: R) b o o' (((b, o') :: r) :: R)
  | tlb {b o o' x r r' R R'} : Upd (r :: R) b o o' (r' :: R') → Upd ((x :: r) :: R) b o o' ((x :: r') :: R')
  | tlc {b o o' C R R'} : Upd R b o o' R' → Upd (C :: R) b o o' (C :: R')

theorem Upd.keys {H b o o' H'} (h : Upd H b o o' H') : H'.flatten.map (·.1) = H.flatten.map (·.1) := by
  induction h with
  | hd => simp
  | tlb _ ih => simp only [List.flatten_cons, List.cons_append, List.map_cons] at ih ⊢; rw [ih]
  | tlc _ ih => simp only [List.flatten_cons, List.map_append]; rw [ih]
theorem Upd.has {H b o o' H'} (h : Upd H b o o' H') : Has H b o := by
  induction h with
  | hd => exact .hd
  | tlb _ ih => exact .tlb ih
  | tlc _ ih => exact .tlc ih
theorem Upd.mem {H b o o' H'} (h : Upd H b o o' H') : ∀ x ∈ H'.flatten, x = (b, o') ∨ x ∈ H.flatten := by
  induction h with
  | hd =>
    intro x hx
    simp only [List.flatten_cons, List.cons_append, List.mem_cons, List.mem_append] at hx ⊢
    rcases hx with hx | hx
    · exact .inl hx
    · exact .inr (.inr hx)
  | tlb _ ih =>
    intro x hx
    simp only [List.flatten_cons, List.cons_append, List.mem_cons] at hx ih ⊢
    rcases hx with hx | hx
    · exact .inr (.inl hx)
    · rcases ih x hx with h | h
      · exact .inl h
      · exact .inr (.inr h)
  | tlc _ ih =>
    intro x hx
    simp only [List.flatten_cons, List.mem_append] at hx ih ⊢
    rcases hx with hx | hx
    · exact .inr (.inl hx)
    · rcases ih x hx with h | h
      · exact .inl h
      · exact .inr (.inr h)

theorem St.has {w0 w : World} {H b o} (h : St w0 w H) (hm : Has H b o) : w.heap[b]? = some o := (h.at_ _ hm.mem).2
theorem St.has_le {w0 w : World} {H b o} (h : St w0 w H) (hm : Has H b o) : w0.heap.size ≤ b := (h.at_ _ hm.mem).1

theorem St.upd {w0 w : World} {H b o o' H'} (h : St w0 w H) (hu : Upd H b o o' H') : St w0 (w.putObj b o') H' := by
  have hb := h.has_le hu.has
  have hlt := heap_lt (h.has hu.has)
  refine ⟨h.base.trans ⟨rfl, rfl, rfl, by simp, fun k hk => World.putObj_heap_other (by omega)⟩, by rw [hu.keys]; exact h.nodup, ?_⟩
  intro x hx
  by_cases e : x.1 = b
  · have hnd := hu.keys ▸ h.nodup
    have hx' : x = (b, o') := by
      rcases hu.mem x hx with hx' | hx'
      · exact hx'
      · -- x lies in H under b: so it is (b, o); in H' the key b bears o'
        have hin : (b, o') ∈ H'.flatten := by
          clear hx hx' hnd h hb hlt e
          induction hu with
          | hd => simp
          | tlb _ ih => simp only [List.flatten_cons, List.cons_append, List.mem_cons] at ih ⊢; exact .inr ih
          | tlc _ ih => simp only [List.flatten_cons, List.mem_append]; exact .inr ih
        have hnd' : (H'.flatten.map (·.1)).Nodup := by rw [hu.keys]; exact h.nodup
        exact nodup_key hnd' hx hin (by simpa using e)
    rw [hx']
    exact ⟨hb, World.putObj_heap_same hlt⟩
  · rcases hu.mem x hx with rfl | hx'
    · exact absurd rfl e
    · obtain ⟨h1, h2⟩ := h.at_ x hx'
      exact ⟨h1, (World.putObj_heap_other e).trans h2⟩

end Go.Proofs.YtdbpandamnkpdaaDoor
