/-
  What single operations do to memory: addresses, loads, stores, new blocks; parts of tuples and structs; slices.
-/
import Derived.Test.YtdbpandamnkpdaaDoorBc
set_option linter.unusedSimpArgs false
set_option linter.unusedVariables false
namespace Go.Proofs.YtdbpandamnkpdaaDoor
open Go Go.RowKit

section
variable {P : Program} {L : Fl} {ty : TypeId} {w0 : World} {H H' : List Chunk} {S : World → Prop}

/-- A block that is known: one's own, or one that lay when the whole began. -/
def AtB (S : World → Prop) (b : Nat) (o : Obj) : Prop := ∀ w, S w → w.heap[b]? = some o
theorem AtB.own {b o} (h : Has H b o) : AtB (fun w => St w0 w H) b o := fun _ hs => hs.has h
theorem AtB.old {b o} (h : w0.heap[b]? = some o) : AtB (fun w => St w0 w H) b o := fun _ hs => hs.old h
/-- What holds of some blocks alone. -/
def SH (w0 : World) (H : List Chunk) (w : World) : Prop := (∀ (k : Nat) (o : Obj), w0.heap[k]? = some o → w.heap[k]? = some o) ∧ ∀ x ∈ H.flatten, w.heap[x.1]? = some x.2
theorem AtB.own' {b o} (h : Has H b o) : AtB (SH w0 H) b o := fun _ hs => hs.2 _ h.mem
theorem AtB.old' {b o} (h : w0.heap[b]? = some o) : AtB (SH w0 H) b o := fun _ hs => hs.1 _ _ h
theorem SH.of {w} (h : St w0 w H) (hl : Le H' H) : SH w0 H' w := ⟨fun _ _ h' => h.old h', fun x hx => ((h.le hl).at_ x hx).2⟩

theorem EvP.nilP {x p} (h : ev L x = some (.pointer (some p))) : EvP P (.nilCheck x) ty L (.pointer (some p)) := fun ρ hk w _ _ _ _ => by
  simp [execOp, hk _ _ h]
theorem EvP.nilF {x f fs cs} (h : ev L x = some (.func (.func f) fs cs)) : EvP P (.nilCheck x) ty L (.func (.func f) fs cs) := fun ρ hk w _ _ _ _ => by
  simp [execOp, hk _ _ h]
theorem EvP.nilY {x l fs cs} (h : ev L x = some (.func (.yield l) fs cs)) : EvP P (.nilCheck x) ty L (.func (.yield l) fs cs) := fun ρ hk w _ _ _ _ => by
  simp [execOp, hk _ _ h]

theorem AtB.of {b o} (h : ∀ w, S w → w.heap[b]? = some o) : AtB S b o := h

theorem EvP.extract {x i vs v} (h : ev L x = some (.tuple vs)) (hv : vs[i]? = some v) : EvP P (.extract x i) ty L v := fun ρ hk w _ _ _ _ => by
  simp [execOp, hk _ _ h, Instr.extract, hv]

theorem EvP.makeFunc {fn first cap fs cs} (hf : evs L first = some fs) (hc : evs L cap = some cs) :
    EvP P (.makeFunc fn first.toArray cap.toArray) ty L (.func fn fs.toArray cs.toArray) := fun ρ hk w _ _ _ _ => by
  simp [execOp, Instr.makeFunc, evs_map hk hf, evs_map hk hc]

theorem addr_add (b off n : Nat) : (⟨b, off, none⟩ : Addr).add n = ⟨b, off + n, none⟩ := by
  unfold Addr.add
  split
  · rename_i h; subst h; rfl
  · rfl

theorem EvP.fieldAddr {s x f b off} {fs : Array Field} {fd : Field} {k : Nat} (hx : ev L x = some (.pointer (some ⟨b, off, none⟩))) (hs : ∀ w, (underlying s).run P w = .ok (.struct fs) w)
    (hf : fs[f]? = some fd) (hk0 : ∀ w, (sizeOf fd.type).run P w = .ok (k + 1) w) : EvP P (.fieldAddr s x f) ty L (.pointer (some ⟨b, off + fd.offset, none⟩)) := fun ρ hk w _ _ _ _ => by
  simp [execOp, hk _ _ hx, Instr.fieldAt, hs, hf, Instr.sureAddr, fieldPlace, hk0, addr_add]

theorem EvP.fa {s x f b off e} {fs : Array Field} {fd : Field} {k : Nat} (hx : ev L x = some (.pointer (some ⟨b, off, none⟩))) (hs : ∀ w, (underlying s).run P w = .ok (.struct fs) w)
    (hf : fs[f]? = some fd) (hk0 : ∀ w, (sizeOf fd.type).run P w = .ok (k + 1) w) (he : off + fd.offset = e) : EvP P (.fieldAddr s x f) ty L (.pointer (some ⟨b, e, none⟩)) := he ▸ EvP.fieldAddr hx hs hf hk0

theorem EvP.field1 {s x f} {fs : Array Field} {fd : Field} {cs : Array Value} {v : Value} (hx : ev L x = some (.agg cs)) (hs : ∀ w, (underlying s).run P w = .ok (.struct fs) w)
    (hf : fs[f]? = some fd) (ha : ∀ w, (isAgg fd.type).run P w = .ok false w) (hv : cs[fd.offset]? = some v) : EvP P (.field s x f) ty L v := fun ρ hk w _ _ _ _ => by
  simp [execOp, hk _ _ hx, Instr.field, hs, hf, part, ha, asAgg, hv]
theorem EvP.fieldN {s x f} {fs : Array Field} {fd : Field} {cs cs' : Array Value} {k : Nat} (hx : ev L x = some (.agg cs)) (hs : ∀ w, (underlying s).run P w = .ok (.struct fs) w)
    (hf : fs[f]? = some fd) (ha : ∀ w, (isAgg fd.type).run P w = .ok true w) (hz : ∀ w, (sizeOf fd.type).run P w = .ok k w) (hv : cs.extract fd.offset (fd.offset + k) = cs') :
    EvP P (.field s x f) ty L (.agg cs') := fun ρ hk w _ _ _ _ => by
  simp [execOp, hk _ _ hx, Instr.field, hs, hf, part, ha, asAgg, hz, hv]

/-! ### loads -/
theorem run_cell {w : World} {b off : Nat} {l : List Value} {T fz v} (hb : w.heap[b]? = some (.cells l.toArray T fz)) (hv : l[off]? = some v) : (load ⟨b, off, none⟩).run P w = .ok v w := by
  have : w.cell? ⟨b, off, none⟩ = some v := by simp [World.cell?, hb, hv]
  simp [load, Sem.run, this]

theorem EvR.load {t x b off T fz v} {l : List Value} (hx : ev L x = some (.pointer (some ⟨b, off, none⟩))) (ha : ∀ w, (isAgg t).run P w = .ok false w)
    (hb : AtB S b (.cells l.toArray T fz)) (hv : l[off]? = some v) : EvR P (.load t x) ty L S v := fun ρ hk w hs _ _ _ _ => by
  simp [execOp, hk _ _ hx, Instr.loadAt, Instr.sureAddr, loadVar, ha, run_cell (hb w hs) hv, -run_load]

def cellsAt (l : List Value) : Nat → List Value → Prop
  | _, [] => True
  | off, v :: vs => l[off]? = some v ∧ cellsAt l (off + 1) vs

theorem run_loadCells {w : World} {b off : Nat} {l : List Value} {T fz} (hb : w.heap[b]? = some (.cells l.toArray T fz)) : ∀ (vs : List Value) (i : Nat) (acc : Array Value),
    cellsAt l (off + i) vs → (loadCellsFrom ⟨b, off, none⟩ i vs.length acc).run P w = .ok (acc ++ vs.toArray) w
  | [], i, acc, _ => by simp [loadCellsFrom]
  | v :: vs, i, acc, h => by
    obtain ⟨h1, h2⟩ := h
    have ih := run_loadCells hb vs (i + 1) (acc.push v) (by rw [← Nat.add_assoc]; exact h2)
    simp only [List.length_cons, loadCellsFrom, addr_add, Sem.run_bind, run_cell hb h1, Result.andThen_ok, ih]
    simp

theorem EvR.loadN {t x b off T fz} {l vs : List Value} (hx : ev L x = some (.pointer (some ⟨b, off, none⟩))) (ha : ∀ w, (isAgg t).run P w = .ok true w)
    (hz : ∀ w, (sizeOf t).run P w = .ok vs.length w) (hb : AtB S b (.cells l.toArray T fz)) (hv : cellsAt l off vs) : EvR P (.load t x) ty L S (.agg vs.toArray) := fun ρ hk w hs _ _ _ _ => by
  have := run_loadCells (P := P) (hb w hs) vs 0 #[] (by simpa using hv)
  simp [execOp, hk _ _ hx, Instr.loadAt, Instr.sureAddr, loadVar, ha, hz, loadCells, this]

/-! ### stores -/
inductive SetL : List Value → Nat → Value → List Value → Prop
  | here {x l v} : SetL (x :: l) 0 v (v :: l)
  | there {x l n v l'} : SetL l n v l' → SetL (x :: l) (n + 1) v (x :: l')
theorem SetL.eq {l n v l'} (h : SetL l n v l') : l' = l.set n v ∧ n < l.length := by
  induction h with
  | here => simp
  | there _ ih => obtain ⟨rfl, h2⟩ := ih; simp [h2]
theorem SetL.of {l : List Value} {n : Nat} {v : Value} (h : n < l.length) : SetL l n v (l.set n v) := by
  induction l generalizing n with
  | nil => simp at h
  | cons x l ih =>
    cases n with
    | zero => exact .here
    | succ n => exact .there (ih (by simpa using h))
inductive SetLs : List Value → Nat → List Value → List Value → Prop
  | nil {l n} : SetLs l n [] l
  | cons {l n v vs l1 l'} : SetL l n v l1 → SetLs l1 (n + 1) vs l' → SetLs l n (v :: vs) l'

theorem setCell_putObj {w : World} {b off : Nat} {l l' : List Value} {T v} (hb : w.heap[b]? = some (.cells l.toArray T (0, 0))) (h : SetL l off v l') :
    w.setCell ⟨b, off, none⟩ v = w.putObj b (.cells l'.toArray T (0, 0)) := by
  obtain ⟨rfl, _⟩ := h.eq
  have hlt := heap_lt hb
  have hb' : w.heap[b] = .cells l.toArray T (0, 0) := by simpa [Array.getElem?_eq_getElem hlt] using hb
  unfold World.setCell World.putObj
  congr 1
  apply Array.ext_getElem?
  intro i
  by_cases e : i = b
  · subst e
    have e1 : ∀ f : Obj → Obj, (w.heap.modify i f)[i]? = some (f (.cells l.toArray T (0, 0))) := fun f => by
      rw [Array.getElem?_modify, if_pos rfl, hb]; rfl
    rw [e1, Array.getElem?_setIfInBounds, if_pos rfl, if_pos hlt]
    simp
  · simp [Array.getElem?_modify, Array.getElem?_setIfInBounds, Ne.symm e]

theorem run_store1 {w : World} {b off : Nat} {l l' : List Value} {T v} (hb : w.heap[b]? = some (.cells l.toArray T (0, 0))) (h : SetL l off v l') (h1 : v.oneCell' = true) :
    (store ⟨b, off, none⟩ v).run P w = .ok () (w.putObj b (.cells l'.toArray T (0, 0))) := by
  have hlt := h.eq.2
  have hc : w.cell? ⟨b, off, none⟩ = some l[off] := by simp [World.cell?, hb, hlt]
  have hf : w.frozen? ⟨b, off, none⟩ = false := by simp [World.frozen?, hb]
  rw [run_store P w _ v _ h1]
  simp only [hc, hf, setCell_putObj hb h]
  simp

theorem putObj_twice (w : World) (b : Nat) (o o' : Obj) : (w.putObj b o).putObj b o' = w.putObj b o' := by
  unfold World.putObj
  congr 1
  apply Array.ext_getElem?
  intro i
  by_cases e : i = b
  · subst e
    simp [Array.getElem?_setIfInBounds]
  · simp [Array.getElem?_setIfInBounds, Ne.symm e]

theorem run_storeCells {T : TypeId} {b off : Nat} : ∀ (vs l l' : List Value) (i : Nat) (w : World), w.heap[b]? = some (.cells l.toArray T (0, 0)) → SetLs l (off + i) vs l' → (∀ v ∈ vs, v.oneCell' = true) → vs ≠ [] →
    (storeCells ⟨b, off, none⟩ vs i).run P w = .ok () (w.putObj b (.cells l'.toArray T (0, 0)))
  | [], _, _, _, _, _, _, _, h => absurd rfl h
  | v :: vs, l, l', i, w, hb, hs, h1, _ => by
    cases hs with
    | cons ha hr =>
      rename_i l1
      simp only [storeCells, addr_add, Sem.run_bind, run_store1 hb ha (h1 v (by simp)), Result.andThen_ok]
      cases vs with
      | nil =>
        cases hr
        simp [storeCells]
      | cons u vs =>
        have hlt := heap_lt hb
        have := run_storeCells (u :: vs) l1 l' (i + 1) (w.putObj b (.cells l1.toArray T (0, 0))) (World.putObj_heap_same hlt) (by rw [← Nat.add_assoc]; exact hr) (fun x hx => h1 x (by simp at hx ⊢; exact .inr hx)) (by simp)
        rw [this, putObj_twice]

theorem EvU.store {t x y b off T n v} {l l' vs : List Value} (hx : ev L x = some (.pointer (some ⟨b, off, none⟩))) (hy : ev L y = some v) (hz : ∀ w, (sizeOf t).run P w = .ok n w)
    (hc : v.cells = vs.toArray) (hn : vs.length = n) (h1 : vs.all (·.oneCell') = true) (hne : vs.isEmpty = false)
    (_hB : Has H b (.cells l.toArray T (0, 0))) (hs : SetLs l off vs l') (hu : Upd H b (.cells l.toArray T (0, 0)) (.cells l'.toArray T (0, 0)) H') : EvU P (.store t x y) ty L w0 H H' := fun ρ hk w hst _ _ _ _ => by
  have hb := hst.has hu.has
  have hr := run_storeCells (P := P) (off := off) vs l l' 0 w hb (by simpa using hs) (by simpa using h1) (by intro e; subst e; simp at hne)
  refine ⟨_, ?_, hst.upd hu⟩
  have hz' : v.cells.size = n := by rw [hc, ← hn]; simp
  have hl : v.cells.toList = vs := by rw [hc]
  simp [execOp, hk _ _ hx, hk _ _ hy, Instr.storeAt, Instr.sureAddr, storeVar, hz, hz', hl, hr]

/-! ### new blocks -/
theorem EvW.box {e x v} {l : List Value} (hx : ev L x = some v) (hc : v.cells = l.toArray) :
    EvW P (.box e x) ty L w0 H (fun u H' => ∃ b, u = .pointer (some ⟨b, 0, none⟩) ∧ H' = [(b, .cells l.toArray e (0, 0))] :: H) := fun ρ hk w hs _ _ _ _ => by
  refine ⟨_, _, _, ?_, ⟨w.heap.size, rfl, rfl⟩, hs.alloc _⟩
  simp [execOp, hk _ _ hx, Instr.box, newVar, newRow, hc]
theorem EvW.alloc {e z} {l : List Value} (hz : ∀ w, (zeroValue e).run P w = .ok z w) (hc : z.cells = l.toArray) :
    EvW P (.alloc e) ty L w0 H (fun u H' => ∃ b, u = .pointer (some ⟨b, 0, none⟩) ∧ H' = [(b, .cells l.toArray e (0, 0))] :: H) := fun ρ hk w hs _ _ _ _ => by
  refine ⟨_, _, _, ?_, ⟨w.heap.size, rfl, rfl⟩, hs.alloc _⟩
  simp [execOp, Instr.alloc, hz, newVar, newRow, hc]
theorem TL.box {c : Cx} {ops Q d e x v pos aft rest} {l : List Value} (hx : ev L x = some v) (hc : v.cells = l.toArray)
    (k : ∀ b, TL c ops Q rest ((d, .pointer (some ⟨b, 0, none⟩)) :: L) ([(b, .cells l.toArray e (0, 0))] :: H)) (hd : Nat.blt d c.N = true := by rfl) :
    TL c ops Q (⟨some d, .box e x, ty, pos, aft, none⟩ :: rest) L H :=
  TL.w (EvW.box hx hc) (by rintro v H' ⟨b, rfl, rfl⟩; exact k b) hd
theorem TL.alloc {c : Cx} {ops Q d e z pos aft rest} {l : List Value} (hz : ∀ w, (zeroValue e).run c.P w = .ok z w) (hc : z.cells = l.toArray)
    (k : ∀ b, TL c ops Q rest ((d, .pointer (some ⟨b, 0, none⟩)) :: L) ([(b, .cells l.toArray e (0, 0))] :: H)) (hd : Nat.blt d c.N = true := by rfl) :
    TL c ops Q (⟨some d, .alloc e, ty, pos, aft, none⟩ :: rest) L H :=
  TL.w (EvW.alloc hz hc) (by rintro v H' ⟨b, rfl, rfl⟩; exact k b) hd

/-- A struct or an array put together: what it comes to is shown beside, type by type. -/
theorem EvP.build {t v} {is : List Nat} {xs : List Operand} {vs : List Value} (hx : evs L xs = some vs) (h : ∀ w, (Instr.build t (is.zip vs).toArray).run P w = .ok v w) :
    EvP P (.build t (is.zip xs).toArray) ty L v := fun ρ hk w _ _ _ _ => by
  have e := evs_map hk hx
  have : ((is.zip xs).toArray.map fun (i, x) => (i, ρ x)) = (is.zip vs).toArray := by
    rw [← e]; simp [List.zip_map_right]
  simp only [execOp, this, Sem.run_bind, h]
  rfl

/-! ### slices -/
section slices
variable {t e : TypeId} {x : Operand} {a : Option Addr} {len cp : Nat}
theorem EvP.lenS {u : TypeId} (hu : ∀ w, (underlying u).run P w = .ok (.slice e) w) (hx : ev L x = some (.slice a len cp)) :
    EvP P (.call { callee := .builtin .len, args := #[x], argTypes := #[u] }) ty L (.int .i64 len) := fun ρ hk w _ _ _ _ => by
  simp [execOp, resolve, invoke, builtin, hk _ _ hx, Builtin.len_, hu, goInt]
theorem EvP.lenStr {u : TypeId} {s : ByteArray} (hu : ∀ w, (underlying u).run P w = .ok .string w) (hx : ev L x = some (.string s)) :
    EvP P (.call { callee := .builtin .len, args := #[x], argTypes := #[u] }) ty L (.int .i64 s.size) := fun ρ hk w _ _ _ _ => by
  simp [execOp, resolve, invoke, builtin, hk _ _ hx, Builtin.len_, hu, goInt]

theorem EvP.ix {i : Operand} {b off k : Nat} {q : IntKind} {j : Int} (hu : ∀ w, (underlying t).run P w = .ok (.slice e) w) (hz : ∀ w, (sizeOf e).run P w = .ok k w)
    (hx : ev L x = some (.slice (some ⟨b, off, none⟩) len cp)) (hi : ev L i = some (.int q j)) (h : 0 ≤ j ∧ j < (len : Int)) :
    EvP P (.indexAddr t x i) ty L (.pointer (some ⟨b, off + j.toNat * k, none⟩)) := fun ρ hk w _ _ _ _ => by
  simp [execOp, hk _ _ hx, hk _ _ hi, Instr.indexAt, asIntOf, hu, hz, h, addr_add]

theorem run_bound {q : IntKind} {j : Int} {y : Nat} {code : BoundsCode} (h : 0 ≤ j ∧ j ≤ (y : Int)) (w : World) : (Instr.sliceBound (.int q j) y code).run P w = .ok j.toNat w := by
  simp [Instr.sliceBound, asIntOf, h]

/-- x[:h] -/
theorem EvP.sliceH {hi : Operand} {k : Nat} {q : IntKind} {j : Int} (hu : ∀ w, (underlying t).run P w = .ok (.slice e) w) (hz : ∀ w, (sizeOf e).run P w = .ok k w)
    (hx : ev L x = some (.slice a len cp)) (hh : ev L hi = some (.int q j)) (h : 0 ≤ j ∧ j ≤ (cp : Int)) (ha : ∀ p, a = some p → p.spot = none) :
    EvP P (.slice t x none (some hi) none) ty L (.slice a j.toNat cp) := fun ρ hk w _ _ _ _ => by
  have hadd : a.map (·.add 0) = a := by cases a <;> simp [Addr.add]
  simp [execOp, hk _ _ hx, hk _ _ hh, Instr.sliceAt, Instr.slice, hu, Instr.sliceBounds, run_bound h, hz, hadd]
/-- x[l:] -/
theorem EvP.sliceL {lo : Operand} {k : Nat} {q : IntKind} {j : Int} (hu : ∀ w, (underlying t).run P w = .ok (.slice e) w) (hz : ∀ w, (sizeOf e).run P w = .ok k w)
    (hx : ev L x = some (.slice a len cp)) (hl : ev L lo = some (.int q j)) (h : 0 ≤ j ∧ j ≤ (len : Int)) :
    EvP P (.slice t x (some lo) none none) ty L (.slice (if cp = j.toNat then a else a.map (·.add (j.toNat * k))) (len - j.toNat) (cp - j.toNat)) := fun ρ hk w _ _ _ _ => by
  simp [execOp, hk _ _ hx, hk _ _ hl, Instr.sliceAt, Instr.slice, hu, Instr.sliceBounds, run_bound h, hz]
/-- x[l:h] -/
theorem EvP.sliceLH {lo hi : Operand} {k : Nat} {q q' : IntKind} {j i : Int} (hu : ∀ w, (underlying t).run P w = .ok (.slice e) w) (hz : ∀ w, (sizeOf e).run P w = .ok k w)
    (hx : ev L x = some (.slice a len cp)) (hl : ev L lo = some (.int q j)) (hh : ev L hi = some (.int q' i)) (h : 0 ≤ j ∧ j ≤ i) (h' : i ≤ (cp : Int)) :
    EvP P (.slice t x (some lo) (some hi) none) ty L (.slice (if cp = j.toNat then a else a.map (·.add (j.toNat * k))) (i.toNat - j.toNat) (cp - j.toNat)) := fun ρ hk w _ _ _ _ => by
  have h1 : 0 ≤ j ∧ j ≤ ((i.toNat : Nat) : Int) := by omega
  have h2 : 0 ≤ i ∧ i ≤ (cp : Int) := by omega
  simp [execOp, hk _ _ hx, hk _ _ hl, hk _ _ hh, Instr.sliceAt, Instr.slice, hu, Instr.sliceBounds, run_bound h1, run_bound h2, hz]
end slices
end
end Go.Proofs.YtdbpandamnkpdaaDoor
