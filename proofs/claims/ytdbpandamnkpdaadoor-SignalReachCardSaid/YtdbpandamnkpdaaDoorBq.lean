/-
  Going through a text rune by rune; a part of a text; slices that are known, as what is appended.
-/
import Derived.Test.YtdbpandamnkpdaaDoorBm
import Derived.Lib.ValidLaws
set_option linter.unusedSimpArgs false
set_option linter.unusedVariables false
namespace Go.Proofs.YtdbpandamnkpdaaDoor
open Go Go.RowKit Go.Lib

section
variable {P : Program} {L : Fl} {ty : TypeId} {w0 : World} {H R : List Chunk} {S : World → Prop} {t : TypeId}
def strIter (l : Str) (pos : Nat) : Obj := .stringIter ⟨l.toArray⟩ pos
theorem decode_drop (l : Str) (pos : Nat) : Utf8.decode ⟨l.toArray⟩ pos = decodeL (l.drop pos) := by
  rw [decode_N, decodeL_N]
  simp [List.getD_eq_getElem?_getD, List.getElem?_drop]
theorem EvW.rangeS {x : Operand} {l : Str} (ht : ∀ w, (underlying t).run P w = .ok .string w) (hx : ev L x = some (sv l)) :
    EvW P (.range t x) ty L w0 H (fun u H' => ∃ r, u = .pointer (some ⟨r, 0, none⟩) ∧ H' = [(r, strIter l 0)] :: H) := fun ρ hk w hs _ _ _ _ => by
  refine ⟨_, _, _, ?_, ⟨w.heap.size, rfl, rfl⟩, hs.alloc _⟩
  simp [execOp, hk _ _ hx, Instr.range, ht, strIter]
theorem TL.rangeS {c : Cx} {ops Q d pos aft rest} {x : Operand} {l : Str} (ht : ∀ w, (underlying t).run c.P w = .ok .string w) (hx : ev L x = some (sv l))
    (k : ∀ r, TL c ops Q rest ((d, .pointer (some ⟨r, 0, none⟩)) :: L) ([(r, strIter l 0)] :: H)) (hd : Nat.blt d c.N = true := by rfl) :
    TL c ops Q (⟨some d, .range t x, ty, pos, aft, none⟩ :: rest) L H :=
  TL.w (EvW.rangeS ht hx) (by rintro v H' ⟨b, rfl, rfl⟩; exact k b) hd
theorem TL.nextS {c : Cx} {ops Q d ps aft rest} {x : Operand} {r pos : Nat} {l : Str} (hx : ev L x = some (.pointer (some ⟨r, 0, none⟩))) (hr : Has H r (strIter l pos))
    (kd : l.length ≤ pos → TL c ops Q rest ((d, .tuple #[.bool false]) :: L) H)
    (km : pos < l.length → ∃ H', Upd H r (strIter l pos) (strIter l (pos + (decodeL (l.drop pos)).2)) H' ∧ TL c ops Q rest ((d, .tuple #[.bool true, .int .i64 pos, .int .i32 (decodeL (l.drop pos)).1]) :: L) H') (hd : Nat.blt d c.N = true := by rfl) :
    TL c ops Q (⟨some d, .next x true, ty, ps, aft, none⟩ :: rest) L H := by
  intro a w hf hs
  refine wpl_step rfl rfl ?_
  have hb := hs.has hr
  have hg : (getObj r).run c.P w = .ok (.stringIter ⟨l.toArray⟩ pos) w := by simp [getObj, Sem.run, hb, strIter]
  have hsz : (ByteArray.mk l.toArray).size = l.length := by simp [ByteArray.size]
  by_cases hp : pos < l.length
  · obtain ⟨H', hu, k⟩ := km hp
    have hso : ∀ o, (setObj r o).run c.P w = .ok () (w.putObj r o) := fun o => by simp [setObj, Sem.run, hb, strIter, World.putObj]
    have hrun : (Instr.next (.pointer (some ⟨r, 0, none⟩)) true ty).run c.P w = .ok (.tuple #[.bool true, .int .i64 pos, .int .i32 (decodeL (l.drop pos)).1]) (w.putObj r (strIter l (pos + (decodeL (l.drop pos)).2))) := by
      unfold Instr.next
      simp only [Sem.run_bind, hg, Result.andThen_ok, hsz, if_pos hp, decode_drop, hso, Sem.run_pure]
      rfl
    simp only [execOp, hf.ev hx, Sem.run_bind, hrun, Result.andThen_ok, Sem.run_pure]
    exact k _ _ (hf.put hd _) (hs.upd hu)
  · have hrun : (Instr.next (.pointer (some ⟨r, 0, none⟩)) true ty).run c.P w = .ok (.tuple #[.bool false]) w := by
      unfold Instr.next
      simp only [Sem.run_bind, hg, Result.andThen_ok, hsz, if_neg hp, Sem.run_pure]
    simp only [execOp, hf.ev hx, Sem.run_bind, hrun, Result.andThen_ok, Sem.run_pure]
    exact kd (by omega) _ _ (hf.put hd _) hs
/-- s[lo:] of a text. -/
theorem EvP.sliceS {x lo : Operand} {l : Str} {q : IntKind} {j : Int} (ht : ∀ w, (underlying t).run P w = .ok .string w) (hx : ev L x = some (sv l)) (hl : ev L lo = some (.int q j)) (h : 0 ≤ j ∧ j ≤ (l.length : Int)) :
    EvP P (.slice t x (some lo) none none) ty L (sv (l.drop j.toNat)) := fun ρ hk w _ _ _ _ => by
  have hsz : (ByteArray.mk l.toArray).size = l.length := by simp [ByteArray.size]
  have hext : (ByteArray.mk l.toArray).extract j.toNat l.length = ⟨(l.drop j.toNat).toArray⟩ := by
    apply ByteArray.ext
    simp [ByteArray.data_extract]
    rw [List.take_of_length_le (by simp)]
  simp [execOp, hk _ _ hx, hk _ _ hl, Instr.sliceAt, Instr.slice, ht, Instr.sliceBounds, run_bound h, hsz, hext]

/-! ### known slices -/
variable {α : Type} {enc : α → List Value} {n : Nat} {T : TypeId}
theorem cellsAt_get {l : List Value} : ∀ {vs : List Value} {o i : Nat} {u : Value}, cellsAt l o vs → vs[i]? = some u → l[o + i]? = some u
  | [], _, _, _, _, h => by simp at h
  | v :: vs, o, 0, u, ⟨h1, _⟩, h => by simp at h; rw [← h]; exact h1
  | v :: vs, o, i + 1, u, ⟨_, h2⟩, h => by
    have := cellsAt_get (i := i) h2 (by simpa using h)
    rw [← this]; congr 1; omega
theorem rowOf_split (hE : Enc n enc) (hn : 0 < n) {xs : List α} {j : Nat} {u : Value} (h : (rowOf enc xs)[j]? = some u) : ∃ x, xs[j / n]? = some x ∧ (enc x)[j % n]? = some u := by
  have hlt := (List.getElem?_eq_some_iff.1 h).1
  rw [rowOf_len hE] at hlt
  have hq : j / n < xs.length := (Nat.div_lt_iff_lt_mul hn).2 hlt
  refine ⟨xs[j / n], List.getElem?_eq_getElem hq, ?_⟩
  have := rowOf_get hE (List.getElem?_eq_getElem hq) (j % n) (Nat.mod_lt _ hn)
  rw [← this, Nat.mul_comm, Nat.div_add_mod, h]
theorem SrcR.els {tx e' : TypeId} (hk : P.underlying tx = some (.slice e')) (hE : Enc n enc) (hn : 0 < n) {v : Value} {xs : List α} (h : Els (fun w => St w0 w H) v n enc T xs) : SrcR P w0 H tx v n enc xs := by
  intro w hst
  obtain ⟨⟨a, cap, rfl⟩, h2⟩ := h
  cases xs with
  | nil =>
    cases a with
    | none => exact Src.ofNil w hk cap
    | some a => exact Src.ofSlice w hk a 0 cap [] (by simp) (by simp) (by simp)
  | cons x xs =>
    obtain ⟨b, off, len, cp, l, T', fz, e, hj, hb, hc⟩ := h2 0 x rfl
    simp only [Value.slice.injEq] at e
    obtain ⟨rfl, hlen, rfl⟩ := e
    have hb' := hb w hst
    refine src_block hk hE hb' fun j u hu => ?_
    obtain ⟨y, hy, hu2⟩ := rowOf_split hE hn hu
    obtain ⟨b2, off2, len2, cp2, l2, T2, fz2, e2, hj2, hb2, hc2⟩ := h2 (j / n) y hy
    simp only [Value.slice.injEq, Option.some.injEq, Addr.mk.injEq, and_true] at e2
    obtain ⟨⟨rfl, rfl⟩, _, _⟩ := e2
    have hb2' := hb2 w hst
    rw [hb'] at hb2'
    simp only [Option.some.injEq, Obj.cells.injEq] at hb2'
    have hl : l = l2 := by simpa using hb2'.1
    rw [hl]
    have := cellsAt_get hc2 hu2
    rw [← this]
    congr 1
    rw [Nat.add_assoc, Nat.mul_comm, Nat.div_add_mod]
/-- What some blocks hold. -/
def HoldsC (C : Chunk) (w : World) : Prop := ∀ x ∈ C, w.heap[x.1]? = some x.2
theorem HoldsC.of {C : Chunk} (hC : C ∈ H) {w : World} (hs : St w0 w H) : HoldsC C w := fun x hx => (hs.at_ x (List.mem_flatten.2 ⟨C, hC, hx⟩)).2
theorem Els.inC {C : Chunk} {v : Value} {k : Nat} {xs : List α} (h : Els (HoldsC C) v k enc T xs) (hC : C ∈ H) : Els (fun w => St w0 w H) v k enc T xs := h.mono fun b o hb w hs => hb w (HoldsC.of hC hs)
theorem Els.more {C C' : Chunk} {v : Value} {k : Nat} {xs : List α} (h : Els (HoldsC C) v k enc T xs) (hs : ∀ x ∈ C, x ∈ C') : Els (HoldsC C') v k enc T xs := h.mono fun b o hb w hh => hb w fun x hx => hh x (hs x hx)
theorem Sl.elsC {v : Value} {xs : List α} {C : Chunk} (hv : Sl T n enc v xs C) (hE : Enc n enc) : Els (HoldsC C) v n enc T xs := by
  obtain ⟨a, cap, e, _, _⟩ := hv.len
  exact ⟨⟨a, cap, e⟩, fun j x hx => hv.elAt hE hx fun b o e w hh => hh (b, o) (by rw [e]; simp)⟩
theorem Els.len {v : Value} {k : Nat} {xs : List α} (h : Els S v k enc T xs) : ∃ a cap, v = .slice a xs.length cap := h.1
theorem Els.elAt {v : Value} {k : Nat} {xs : List α} (h : Els S v k enc T xs) {j : Nat} {x : α} (hx : xs[j]? = some x) : ElAt S v k enc T j x := h.2 j x hx
theorem Els.sub {v : Value} {k : Nat} {xs : List α} {w0 : World} (h : Els (fun w => St w0 w H) v k enc T xs) {H' : List Chunk} (hl : Le H H') : Els (fun w => St w0 w H') v k enc T xs := h.mono fun b o hb w hs => hb w (hs.le hl)
end
end Go.Proofs.YtdbpandamnkpdaaDoor
