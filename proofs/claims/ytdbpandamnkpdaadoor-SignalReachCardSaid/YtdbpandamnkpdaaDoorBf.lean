/-
  Slices of one's own: what they hold as a list, append, elements.
-/
import Derived.Test.YtdbpandamnkpdaaDoorBe
import Derived.Deep.AppendSrc
set_option linter.unusedSimpArgs false
set_option linter.unusedVariables false
namespace Go.Proofs.YtdbpandamnkpdaaDoor
open Go Go.RowKit

/-- An element's type: how many cells, how many bytes. -/
def ElT (P : Program) (e : TypeId) (n bytes : Nat) : Prop :=
  ∃ i z, P.info? e = some i ∧ i.size = n ∧ i.bytes = bytes ∧ i.zero = some z ∧ z.cells.size = n
/-- How an element lies in its cells. -/
def Enc {α : Type} (n : Nat) (enc : α → List Value) : Prop := ∀ x, (enc x).length = n ∧ ∀ u ∈ enc x, u.oneCell' = true
def rowOf {α : Type} (enc : α → List Value) (xs : List α) : List Value := xs.flatMap enc

section
variable {α : Type} {enc : α → List Value} {n : Nat}
theorem rowOf_nil : rowOf enc [] = [] := rfl
theorem rowOf_cons (x : α) (xs) : rowOf enc (x :: xs) = enc x ++ rowOf enc xs := by simp [rowOf]
theorem rowOf_app (xs ys : List α) : rowOf enc (xs ++ ys) = rowOf enc xs ++ rowOf enc ys := by simp [rowOf]
theorem rowOf_len (hE : Enc n enc) : ∀ xs : List α, (rowOf enc xs).length = xs.length * n
  | [] => by simp [rowOf]
  | x :: xs => by
    rw [rowOf_cons, List.length_append, rowOf_len hE xs, (hE x).1, List.length_cons, Nat.succ_mul]; omega
theorem rowOf_one (hE : Enc n enc) {xs : List α} : ∀ u ∈ rowOf enc xs, u.oneCell' = true := by
  intro u hu
  obtain ⟨x, _, hx⟩ := List.mem_flatMap.1 hu
  exact (hE x).2 u hx
theorem rowOf_get (hE : Enc n enc) : ∀ {xs : List α} {j : Nat} {x : α}, xs[j]? = some x → ∀ k, k < n → (rowOf enc xs)[j * n + k]? = (enc x)[k]?
  | [], _, _, h, _, _ => by simp at h
  | y :: xs, 0, x, h, k, hk => by
    simp only [List.length_cons, List.getElem?_cons_zero, Option.some.injEq] at h
    subst h
    rw [rowOf_cons, Nat.zero_mul, Nat.zero_add, List.getElem?_append_left (by rw [(hE y).1]; exact hk)]
  | y :: xs, j + 1, x, h, k, hk => by
    have h' : xs[j]? = some x := by simpa using h
    have hlen := (hE y).1
    rw [rowOf_cons, List.getElem?_append_right (by rw [hlen, Nat.succ_mul]; omega), hlen]
    have : (j + 1) * n + k - n = j * n + k := by rw [Nat.succ_mul]; omega
    rw [this]
    exact rowOf_get hE h' k hk
end

/-- A slice of one's own: nil, or a row in a block of its own. -/
def Sl {α : Type} (T : TypeId) (n : Nat) (enc : α → List Value) (v : Value) (xs : List α) (C : Chunk) : Prop :=
  (v = .slice none 0 0 ∧ xs = [] ∧ C = []) ∨
  ∃ b off cap pre spare, v = .slice (some ⟨b, off, none⟩) xs.length cap ∧ C = [(b, .cells (pre ++ (rowOf enc xs ++ spare)).toArray T (0, 0))] ∧
    pre.length = off ∧ xs.length ≤ cap ∧ (cap - xs.length) * n ≤ spare.length

section
variable {P : Program} {L : Fl} {ty : TypeId} {w0 : World} {H R : List Chunk} {α : Type} {enc : α → List Value} {n : Nat} {T : TypeId}

theorem Sl.nil : Sl T n enc (.slice none 0 0) [] [] := .inl ⟨rfl, rfl, rfl⟩
theorem Sl.lit {b : Nat} (xs : List α) : Sl T n enc (.slice (some ⟨b, 0, none⟩) xs.length xs.length) xs [(b, .cells (rowOf enc xs).toArray T (0, 0))] :=
  .inr ⟨b, 0, xs.length, [], [], rfl, by simp, rfl, Nat.le_refl _, by simp⟩
theorem Sl.len {v : Value} {xs : List α} {C} (h : Sl T n enc v xs C) : ∃ a cap, v = .slice a xs.length cap ∧ xs.length ≤ cap ∧ (∀ p, a = some p → p.spot = none) := by
  rcases h with ⟨rfl, rfl, rfl⟩ | ⟨b, off, cap, pre, spare, rfl, _, _, h, _⟩
  · exact ⟨none, 0, rfl, Nat.le_refl _, fun _ h => by cases h⟩
  · exact ⟨_, _, rfl, h, fun p e => by cases e; rfl⟩

/-- What may be appended: a value that yields ys. -/
def SrcR (P : Program) (w0 : World) (H : List Chunk) (tx : TypeId) (u : Value) (n : Nat) (enc : α → List Value) (ys : List α) : Prop :=
  ∀ w, St w0 w H → Src P n tx u ys.length (rowOf enc ys) w

theorem src_block {w : World} {tx e' : TypeId} (hk : P.underlying tx = some (.slice e')) (hE : Enc n enc) {b off cp : Nat} {l : List Value} {T fz} {ys : List α} (hb : w.heap[b]? = some (.cells l.toArray T fz))
    (hc : ∀ j u, (rowOf enc ys)[j]? = some u → l[off + j]? = some u) : Src P n tx (.slice (some ⟨b, off, none⟩) ys.length cp) ys.length (rowOf enc ys) w :=
  Src.ofSlice w hk _ _ _ _ (rowOf_len hE ys) (fun j u h => by rw [addr_add]; simp [World.cell?, hb, hc j u h]) (rowOf_one hE)

theorem SrcR.sl {tx e' : TypeId} (hk : P.underlying tx = some (.slice e')) (hE : Enc n enc) {u : Value} {ys : List α} {D : Chunk} (hs : Sl T n enc u ys D) (hD : D ∈ H) : SrcR P w0 H tx u n enc ys := by
  intro w hst
  rcases hs with ⟨rfl, rfl, rfl⟩ | ⟨b, off, cap, pre, spare, rfl, rfl, rfl, h1, h2⟩
  · exact Src.ofNil w hk 0
  · have hb := (hst.at_ (b, .cells (pre ++ (rowOf enc ys ++ spare)).toArray T (0, 0)) (List.mem_flatten.2 ⟨_, hD, by simp⟩)).2
    exact src_block hk hE hb fun j u h => by
      have hj := (List.getElem?_eq_some_iff.1 h).1
      rw [List.getElem?_append_right (by omega), Nat.add_sub_cancel_left, List.getElem?_append_left hj]; exact h

theorem SetL.skip {A S : List Value} {k : Nat} {v : Value} {S' : List Value} (h : SetL S k v S') : SetL (A ++ S) (A.length + k) v (A ++ S') := by
  induction A with
  | nil => simpa using h
  | cons x A ih =>
    have : (x :: A).length + k = (A.length + k) + 1 := by simp; omega
    rw [this]
    exact .there ih
theorem SetLs.skip {A : List Value} : ∀ {vs S S' : List Value} {k : Nat}, SetLs S k vs S' → SetLs (A ++ S) (A.length + k) vs (A ++ S')
  | [], S, S', k, h => by cases h; exact .nil
  | v :: vs, S, S', k, h => by
    cases h with
    | cons h1 h2 => exact .cons h1.skip (by have := SetLs.skip (A := A) h2; rwa [← Nat.add_assoc] at this)
theorem SetLs.front : ∀ {vs S : List Value} {B : List Value}, vs.length ≤ S.length → SetLs (B ++ S) B.length vs (B ++ (vs ++ S.drop vs.length))
  | [], S, B, _ => by simpa using SetLs.nil
  | v :: vs, [], B, h => by simp at h
  | v :: vs, s :: S, B, h => by
    refine .cons (l1 := B ++ (v :: S)) (by have := SetL.skip (A := B) (SetL.here (x := s) (l := S) (v := v)); simpa using this) ?_
    have ih := SetLs.front (vs := vs) (S := S) (B := B ++ [v]) (by simpa using h)
    simpa using ih

theorem run_storeAny {T : TypeId} {b off : Nat} {vs l l' : List Value} {w : World} (hb : w.heap[b]? = some (.cells l.toArray T (0, 0))) (hs : SetLs l off vs l') (h1 : ∀ v ∈ vs, v.oneCell' = true) :
    (storeCells ⟨b, off, none⟩ vs 0).run P w = .ok () (w.putObj b (.cells l'.toArray T (0, 0))) := by
  cases vs with
  | nil =>
    cases hs
    have : w.putObj b (.cells l.toArray T (0, 0)) = w := by
      unfold World.putObj
      have hlt := heap_lt hb
      have e : w.heap.setIfInBounds b (.cells l.toArray T (0, 0)) = w.heap := by
        apply Array.ext_getElem?
        intro i
        by_cases h : i = b
        · subst h; rw [Array.getElem?_setIfInBounds, if_pos rfl, if_pos hlt, hb]
        · rw [Array.getElem?_setIfInBounds, if_neg (Ne.symm h)]
      rw [e]
    rw [this]
    simp [storeCells]
  | cons v vs => exact run_storeCells (v :: vs) l l' 0 w hb (by simpa using hs) h1 (by simp)

/-- append. -/
theorem run_append {t tx e bytes : TypeId} (het : ElT P e n bytes) (ht : P.underlying t = some (.slice e)) (hE : Enc n enc) {v u : Value} {xs ys : List α} {C : Chunk}
    (hv : Sl T n enc v xs C) (hT : T = e) (hu : SrcR P w0 (C :: R) tx u n enc ys) (hsz : (xs.length + ys.length) * bytes ≤ 140737488355328) (hb : 0 < bytes) {w : World} (hst : St w0 w (C :: R)) (ty : TypeId) :
    ∃ v' w' C', (Builtin.append_ #[t, tx] ty #[v, u]).run P w = .ok v' w' ∧ Sl T n enc v' (xs ++ ys) C' ∧ St w0 w' (C' :: R) := by
  subst hT
  obtain ⟨i, z, hi, hn, hby, hz, hzs⟩ := het
  have hsrc := hu w hst
  rw [← hn] at hsrc
  have grow : ∀ (base : Option Addr) (cap : Nat), (Builtin.firstCells i.size xs.length (.slice base xs.length cap)).run P w.drew = .ok (rowOf enc xs).toArray w.drew → cap < xs.length + ys.length →
      ∃ v' w' C', (Builtin.append_ #[t, tx] ty #[.slice base xs.length cap, u]).run P w = .ok v' w' ∧ Sl T n enc v' (xs ++ ys) C' ∧ St w0 w' (C' :: R) := by
    intro base cap hold hg
    have hfit : Builtin.nextslicecap (xs.length + ys.length) cap * i.bytes ≤ 281474976710656 := growslice_fits hg (by rw [hby]; exact hsz)
    have h63 : ((xs.length + ys.length : Nat) : Int) ≤ 9223372036854775807 := by
      have : xs.length + ys.length ≤ (xs.length + ys.length) * bytes := Nat.le_mul_of_pos_right _ hb
      omega
    have hr := run_append_grow_src (P := P) w t tx ty T i z ht hi hz base xs.length cap _ hold u ys.length _ hsrc hg h63 hfit
    obtain ⟨G, hG⟩ : ∃ G, G = grownCap w (xs.length + ys.length) cap T := ⟨_, rfl⟩
    have hGe : xs.length + ys.length ≤ G := by rw [hG]; exact grownCap_ge _ _ _ _
    rw [← hG] at hr
    refine ⟨_, _, [(w.heap.size, .cells ([] ++ (rowOf enc (xs ++ ys) ++ (Builtin.zeroCells z.cells (G - (xs.length + ys.length))).toList)).toArray T (0, 0))], hr,
      .inr ⟨w.heap.size, 0, G, [], (Builtin.zeroCells z.cells (G - (xs.length + ys.length))).toList, ?_, rfl, rfl, ?_, ?_⟩, ?_⟩
    · rw [List.length_append]
    · rw [List.length_append]; exact hGe
    · have e : (Builtin.zeroCells z.cells (G - (xs.length + ys.length))).toList.length = (G - (xs.length + ys.length)) * n := by rw [Array.length_toList, size_zeroCells, hzs]
      rw [e, List.length_append]; exact Nat.le_refl _
    · have := (St.drop hst).drew.alloc (.cells ((rowOf enc xs ++ rowOf enc ys).toArray ++ Builtin.zeroCells z.cells (G - (xs.length + ys.length))) T)
      have e1 : (rowOf enc xs ++ rowOf enc ys).toArray ++ Builtin.zeroCells z.cells (G - (xs.length + ys.length)) = ([] ++ (rowOf enc (xs ++ ys) ++ (Builtin.zeroCells z.cells (G - (xs.length + ys.length))).toList)).toArray := by
        apply Array.ext'
        simp [rowOf_app, List.append_assoc]
      rw [e1] at this ⊢
      exact this
  rcases hv with ⟨rfl, rfl, rfl⟩ | ⟨b, off, cap, pre, spare, rfl, rfl, rfl, h1, h2⟩
  · cases ys with
    | nil =>
      refine ⟨.slice none 0 0, w, [], ?_, .inl ⟨rfl, rfl, rfl⟩, hst⟩
      have hc := hsrc.cells
      have hl := hsrc.len
      simp only [List.length_nil] at hc hl
      rcases hsrc.kind with ⟨e', hk⟩ | hk <;> simp [Builtin.append_, run_underlying ht, run_underlying hk, sizeOf, typeInfo, hi, hl, hc]
    | cons y ys => exact grow none 0 (by simp [rowOf, Builtin.firstCells]) (by simp)
  · have hhas : w.heap[b]? = some (.cells (pre ++ (rowOf enc xs ++ spare)).toArray T (0, 0)) := hst.has .hd
    by_cases hroom : xs.length + ys.length ≤ cap
    · -- in place
      have hylen := rowOf_len hE ys
      have hxlen := rowOf_len hE xs
      have hle : (rowOf enc ys).length ≤ spare.length := by
        rw [hylen]; exact Nat.le_trans (Nat.mul_le_mul_right _ (by omega)) h2
      have hset : SetLs (pre ++ (rowOf enc xs ++ spare)) (pre.length + xs.length * n) (rowOf enc ys) (pre ++ (rowOf enc (xs ++ ys) ++ spare.drop (rowOf enc ys).length)) := by
        have := SetLs.front (B := pre ++ rowOf enc xs) hle
        rw [List.length_append, hxlen] at this
        simpa [rowOf_app, List.append_assoc] using this
      have hrun := run_storeAny (P := P) hhas hset (rowOf_one hE)
      refine ⟨.slice (some ⟨b, pre.length, none⟩) (xs.length + ys.length) cap, w.putObj b (.cells (pre ++ (rowOf enc (xs ++ ys) ++ spare.drop (rowOf enc ys).length)).toArray T (0, 0)), _, ?_, .inr ⟨b, pre.length, cap, pre, spare.drop (rowOf enc ys).length, by simp, rfl, rfl, by simpa using hroom, ?_⟩, ?_⟩
      · have hc := hsrc.cells
        rw [hn] at hc
        rcases hsrc.kind with ⟨e', hk⟩ | hk <;> simp [Builtin.append_, run_underlying ht, run_underlying hk, sizeOf, typeInfo, hi, hsrc.len, hroom, hc, addr_add, hn, hrun]
      · rw [List.length_drop, hylen, List.length_append]
        have e : (cap - (xs.length + ys.length)) * n = (cap - xs.length) * n - ys.length * n := by rw [← Nat.sub_mul]; congr 1; omega
        omega
      · exact hst.upd .hd
    · refine grow _ _ ?_ (by omega)
      rw [hn]
      have := src_block (P := P) (n := n) (w := w) (tx := t) ht hE (cp := cap) (ys := xs) hhas (off := pre.length) (fun j u h => by
        have hj := (List.getElem?_eq_some_iff.1 h).1
        rw [List.getElem?_append_right (by omega), Nat.add_sub_cancel_left, List.getElem?_append_left hj]; exact h)
      exact this.cellsD

theorem EvW.append {s y : Operand} {t tx e bytes : TypeId} {v u : Value} {xs ys : List α} {C : Chunk} (hx : ev L s = some v) (hy : ev L y = some u) (het : ElT P e n bytes) (ht : P.underlying t = some (.slice e)) (hE : Enc n enc)
    (hv : Sl e n enc v xs C) (hu : SrcR P w0 (C :: R) tx u n enc ys) (hsz : (xs.length + ys.length) * bytes ≤ 140737488355328) (hb : 0 < bytes) :
    EvW P (.call { callee := .builtin .append, args := #[s, y], argTypes := #[t, tx] }) ty L w0 (C :: R) (fun v' H' => ∃ C', Sl e n enc v' (xs ++ ys) C' ∧ H' = C' :: R) := fun ρ hk w hst _ _ _ _ => by
  obtain ⟨v', w', C', hr, hp, hs⟩ := run_append het ht hE hv rfl hu hsz hb hst ty
  refine ⟨v', w', _, ?_, ⟨C', hp, rfl⟩, hs⟩
  simp [execOp, resolve, invoke, builtin, hk _ _ hx, hk _ _ hy, hr]

theorem TL.append {c : Cx} {ops Q d pos aft rest} {s y : Operand} {t tx e bytes : TypeId} {v u : Value} {xs ys : List α} {C : Chunk} (hx : ev L s = some v) (hy : ev L y = some u) (het : ElT c.P e n bytes)
    (ht : c.P.underlying t = some (.slice e)) (hE : Enc n enc) (hv : Sl e n enc v xs C) (hu : SrcR c.P c.w0 (C :: R) tx u n enc ys) (hsz : (xs.length + ys.length) * bytes ≤ 140737488355328) (hb : 0 < bytes)
    (k : ∀ v' C', Sl e n enc v' (xs ++ ys) C' → TL c ops Q rest ((d, v') :: L) (C' :: R)) (hd : Nat.blt d c.N = true := by rfl) :
    TL c ops Q (⟨some d, .call { callee := .builtin .append, args := #[s, y], argTypes := #[t, tx] }, ty, pos, aft, none⟩ :: rest) L (C :: R) :=
  TL.w (EvW.append hx hy het ht hE hv hu hsz hb) (by rintro v' H' ⟨C', hp, rfl⟩; exact k v' C' hp) hd

/-- A slice literal: its cells, one after another. -/
theorem fill_row (n : Nat) : ∀ (vs : List Value) (ks : Nat) (pre rest : List Value), (∀ v ∈ vs, v.cells.size = n) → pre.length = ks * n → rest.length = vs.length * n →
    Instr.fill (fun i => some (i * n, n)) (pre ++ rest).toArray ((List.range' ks vs.length).zip vs) = some (pre ++ vs.flatMap (fun v => v.cells.toList)).toArray
  | [], ks, pre, rest, _, _, hr => by
    have : rest = [] := by simpa using hr
    simp [Instr.fill, this]
  | v :: vs, ks, pre, rest, hv, hp, hr => by
    have h1 := hv v (by simp)
    have hrl : n ≤ rest.length := by rw [hr, List.length_cons, Nat.succ_mul]; omega
    have key : ∀ (cs : List Value) (k m : Nat) (a b : List Value), cs.length ≤ b.length → a.length = m + k →
        (cs.zipIdx k).foldl (fun (acc : Array Value) (x : Value × Nat) => acc.setIfInBounds (m + x.2) x.1) (a ++ b).toArray = (a ++ (cs ++ b.drop cs.length)).toArray := by
      intro cs
      induction cs with
      | nil => intro k m a b _ _; simp
      | cons c cs ih =>
        intro k m a b hb ha
        cases b with
        | nil => simp at hb
        | cons y ys =>
          simp only [List.zipIdx_cons, List.foldl_cons]
          have e1 : (a ++ y :: ys).toArray.setIfInBounds (m + k) c = ((a ++ [c]) ++ ys).toArray := by
            apply Array.ext'
            rw [Array.toList_setIfInBounds, ← ha]
            simp
          rw [e1, ih (k + 1) m (a ++ [c]) ys (by simpa using hb) (by simp [ha]; omega)]
          simp
    have hl : v.cells.toList.length = n := by simp [h1]
    have hz : v.cells.zipIdx.foldl (fun cs (c, j) => cs.setIfInBounds (ks * n + j) c) (pre ++ rest).toArray = (pre ++ (v.cells.toList ++ rest.drop n)).toArray := by
      have := key v.cells.toList 0 (ks * n) pre rest (by rw [hl]; exact hrl) (by simpa using hp)
      rw [hl] at this
      rw [← this, ← Array.foldl_toList, Array.toList_zipIdx]
    simp only [List.length_cons, List.range'_succ, List.zip_cons_cons, Instr.fill]
    rw [if_neg (by simp [h1]; rw [hp]; omega)]
    rw [hz, ← List.append_assoc]
    rw [fill_row n vs (ks + 1) (pre ++ v.cells.toList) (rest.drop n) (fun u hu => hv u (by simp [hu])) (by simp [h1, hp, Nat.succ_mul]) (by rw [List.length_drop, hr, List.length_cons, Nat.succ_mul]; omega)]
    simp

theorem EvW.buildSlice {t e bytes : TypeId} {m : Nat} {os : List Operand} {vs : List Value} (xs : List α) (hos : evs L os = some vs) (het : ElT P e n bytes) (ht : P.underlying t = some (.slice e)) (hn : 0 < n)
    (hlen : vs.length = m) (hxl : xs.length = m) (hv : ∀ v ∈ vs, v.cells.size = n) (hvx : vs.flatMap (fun v => v.cells.toList) = rowOf enc xs) (hm : m * n ≤ 16777216) :
    EvW P (.buildSlice t m ((List.range' 0 m).zip os).toArray) ty L w0 H (fun v' H' => ∃ b, v' = .slice (some ⟨b, 0, none⟩) xs.length xs.length ∧ H' = [(b, .cells (rowOf enc xs).toArray e (0, 0))] :: H) := fun ρ hk w hst _ _ _ _ => by
  obtain ⟨i, z, hi, hsn, hby, hz, hzs⟩ := het
  have he := evs_map hk hos
  have hparts : (((List.range' 0 m).zip os).toArray.map fun (i, x) => (i, ρ x)) = ((List.range' 0 m).zip vs).toArray := by rw [← he]; simp [List.zip_map_right]
  have hfill : ∀ cs : Array Value, cs.size = m * n → Instr.fill (fun i => some (i * n, n)) cs ((List.range' 0 m).zip vs) = some (rowOf enc xs).toArray := by
    intro cs hcs
    have := fill_row n vs 0 [] cs.toList hv (by simp) (by rw [Array.length_toList, hcs, hlen])
    rw [hlen, hvx] at this
    simpa using this
  refine ⟨_, _, _, ?_, ⟨w.heap.size, rfl, rfl⟩, hst.alloc _⟩
  have h24 : ¬ (m * n > 16777216) := by omega
  simp only [execOp, hparts]
  by_cases h0 : m * n = 0
  · have hm0 : m = 0 := by rcases Nat.mul_eq_zero.1 h0 with h | h <;> omega
    subst hm0
    have hf := hfill #[] (by simp)
    have hx0 : xs = [] := List.length_eq_zero_iff.1 hxl
    subst hx0
    simp [Instr.buildSlice, run_underlying ht, sizeOf, typeInfo, hi, hsn, Instr.fill, newRow, rowOf]
    have h9 : ((Array.range 0).map (fun _ : Nat => (default : Value))) = #[] := Array.eq_empty_of_size_eq_zero (by simp)
    rw [h9]
  · have hf := hfill ((Array.range (m * n)).map (z.cells[· % z.cells.size]!)) (by simp)
    simp [Instr.buildSlice, run_underlying ht, sizeOf, typeInfo, hi, hsn, h24, h0, zeroValue, hz, hf, newRow, hxl]

end
end Go.Proofs.YtdbpandamnkpdaaDoor
