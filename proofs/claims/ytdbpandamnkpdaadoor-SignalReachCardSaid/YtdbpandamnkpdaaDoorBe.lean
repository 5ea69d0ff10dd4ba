/-
  Tests that part the way; calls whose blocks are told one by one.
-/
import Derived.Test.YtdbpandamnkpdaaDoorBd
set_option linter.unusedSimpArgs false
set_option linter.unusedVariables false
namespace Go.Proofs.YtdbpandamnkpdaaDoor
open Go Go.RowKit

theorem TL.dec {c : Cx} {ops Q d op ty pos aft rest L H} {p : Prop} [Decidable p] (hv : EvP c.P op ty L (.bool (decide p)))
    (kt : p → TL c ops Q rest ((d, .bool true) :: L) H) (kf : ¬p → TL c ops Q rest ((d, .bool false) :: L) H) (hd : Nat.blt d c.N = true := by rfl) (hn : isDefer op = false := by rfl) :
    TL c ops Q (⟨some d, op, ty, pos, aft, none⟩ :: rest) L H := by
  refine TL.p hv ?_ hd hn
  by_cases h : p
  · rw [decide_eq_true h]; exact kt h
  · rw [decide_eq_false h]; exact kf h
/-- A truth value is looked at. -/
theorem TL.bsplit {c : Cx} {ops Q l L H} (t : Nat) {b : Bool} (ht : flGet L t = some (.bool b)) (kt : b = true → TL c ops Q l ((t, .bool true) :: L) H) (kf : b = false → TL c ops Q l ((t, .bool false) :: L) H) : TL c ops Q l L H := by
  have hs : ∀ v, v = b → ∀ a, Fr a c.D c.N L → Fr a c.D c.N ((t, .bool v) :: L) := by
    rintro v rfl a hf
    refine ⟨hf.defers, hf.size, ?_⟩
    intro s u e
    by_cases hts : t = s
    · subst hts
      simp only [flGet, Nat.beq_refl, cond_true, Option.some.injEq] at e
      subst e
      exact hf.get _ _ ht
    · simp only [flGet, beq_no hts, cond_false] at e
      exact hf.get _ _ e
  intro a w hf hst
  cases b with
  | true => exact kt rfl a w (hs true rfl a hf) hst
  | false => exact kf rfl a w (hs false rfl a hf) hst

def Post0 (w0 : World) (R : List Chunk) (post : Value → Prop) : Ending → World → Prop := Post w0 R fun v Hq => Hq = [] ∧ post v
def Post1 (w0 : World) (R : List Chunk) (post : Value → Chunk → Prop) : Ending → World → Prop := Post w0 R fun v Hq => ∃ C, Hq = [C] ∧ post v C
def Post2 (w0 : World) (R : List Chunk) (post : Value → Chunk → Chunk → Prop) : Ending → World → Prop := Post w0 R fun v Hq => ∃ C D, Hq = [C, D] ∧ post v C D
def Post3 (w0 : World) (R : List Chunk) (post : Value → Chunk → Chunk → Chunk → Prop) : Ending → World → Prop := Post w0 R fun v Hq => ∃ C D E, Hq = [C, D, E] ∧ post v C D E

section
variable {c : Cx} {ops : Array Oper} {Q : Exit → Act → World → Prop} {d : Nat} {g : Operand} {f : FuncId} {cap : List Value} {xs : List Operand} {vs : List Value} {ats : Array TypeId} {ty : TypeId} {pos : String}
  {aft : Array Edge} {rest : List Oper} {L : Fl} {H R : List Chunk}
theorem TL.callA {post : Value → Prop} (hg : ev L g = some (.func (.func f) #[] cap.toArray)) (hx : evs L xs = some vs) (hc : ∀ args w, (callFunc f args).run c.P w = .ok (.enter f args) w)
    (hs : ∀ w, St c.w0 w H → Calls c.P f (vs ++ cap).toArray w (Post0 c.w0 R post)) (k : ∀ v, post v → TL c ops Q rest ((d, v) :: L) R) (hd : Nat.blt d c.N = true := by rfl) :
    TL c ops Q (⟨some d, .call { callee := .value g, args := xs.toArray, argTypes := ats }, ty, pos, aft, none⟩ :: rest) L H :=
  TL.call hg hx hc hs (by rintro v Hq ⟨rfl, hp⟩; exact k v hp) hd
theorem TL.callB {post : Value → Chunk → Prop} (hg : ev L g = some (.func (.func f) #[] cap.toArray)) (hx : evs L xs = some vs) (hc : ∀ args w, (callFunc f args).run c.P w = .ok (.enter f args) w)
    (hs : ∀ w, St c.w0 w H → Calls c.P f (vs ++ cap).toArray w (Post1 c.w0 R post)) (k : ∀ v C, post v C → TL c ops Q rest ((d, v) :: L) (C :: R)) (hd : Nat.blt d c.N = true := by rfl) :
    TL c ops Q (⟨some d, .call { callee := .value g, args := xs.toArray, argTypes := ats }, ty, pos, aft, none⟩ :: rest) L H :=
  TL.call hg hx hc hs (by rintro v Hq ⟨C, rfl, hp⟩; exact k v C hp) hd
theorem TL.callC {post : Value → Chunk → Chunk → Prop} (hg : ev L g = some (.func (.func f) #[] cap.toArray)) (hx : evs L xs = some vs) (hc : ∀ args w, (callFunc f args).run c.P w = .ok (.enter f args) w)
    (hs : ∀ w, St c.w0 w H → Calls c.P f (vs ++ cap).toArray w (Post2 c.w0 R post)) (k : ∀ v C D, post v C D → TL c ops Q rest ((d, v) :: L) (C :: D :: R)) (hd : Nat.blt d c.N = true := by rfl) :
    TL c ops Q (⟨some d, .call { callee := .value g, args := xs.toArray, argTypes := ats }, ty, pos, aft, none⟩ :: rest) L H :=
  TL.call hg hx hc hs (by rintro v Hq ⟨C, D, rfl, hp⟩; exact k v C D hp) hd
theorem TL.callA0 {post : Value → Prop} (hg : ev L g = some (.func (.func f) #[] cap.toArray)) (hx : evs L xs = some vs) (hc : ∀ args w, (callFunc f args).run c.P w = .ok (.enter f args) w)
    (hs : ∀ w, St c.w0 w H → Calls c.P f (vs ++ cap).toArray w (Post0 c.w0 R post)) (k : ∀ v, post v → TL c ops Q rest L R) :
    TL c ops Q (⟨none, .call { callee := .value g, args := xs.toArray, argTypes := ats }, ty, pos, aft, none⟩ :: rest) L H :=
  TL.call0 hg hx hc hs (by rintro v Hq ⟨rfl, hp⟩; exact k v hp)
theorem TL.callB0 {post : Value → Chunk → Prop} (hg : ev L g = some (.func (.func f) #[] cap.toArray)) (hx : evs L xs = some vs) (hc : ∀ args w, (callFunc f args).run c.P w = .ok (.enter f args) w)
    (hs : ∀ w, St c.w0 w H → Calls c.P f (vs ++ cap).toArray w (Post1 c.w0 R post)) (k : ∀ v C, post v C → TL c ops Q rest L (C :: R)) :
    TL c ops Q (⟨none, .call { callee := .value g, args := xs.toArray, argTypes := ats }, ty, pos, aft, none⟩ :: rest) L H :=
  TL.call0 hg hx hc hs (by rintro v Hq ⟨C, rfl, hp⟩; exact k v C hp)

theorem Post0.mk {w0 w H R v} {post : Value → Prop} (hs : St w0 w H) (hp : post v) (hl : Le R H) : Post0 w0 R post (.returned v) w := ⟨v, [], rfl, ⟨rfl, hp⟩, hs.le hl⟩
theorem Post1.mk {w0 w H R v C} {post : Value → Chunk → Prop} (hs : St w0 w H) (hp : post v C) (hl : Le (C :: R) H) : Post1 w0 R post (.returned v) w := ⟨v, [C], rfl, ⟨C, rfl, hp⟩, hs.le hl⟩
theorem Post2.mk {w0 w H R v C D} {post : Value → Chunk → Chunk → Prop} (hs : St w0 w H) (hp : post v C D) (hl : Le (C :: D :: R) H) : Post2 w0 R post (.returned v) w := ⟨v, [C, D], rfl, ⟨C, D, rfl, hp⟩, hs.le hl⟩
theorem Post3.mk {w0 w H R v C D E} {post : Value → Chunk → Chunk → Chunk → Prop} (hs : St w0 w H) (hp : post v C D E) (hl : Le (C :: D :: E :: R) H) : Post3 w0 R post (.returned v) w := ⟨v, [C, D, E], rfl, ⟨C, D, E, rfl, hp⟩, hs.le hl⟩
end

section
variable {P : Program} {fn : Func} {L : Fl} {w0 : World} {H : List Chunk}
theorem run_loadN {S : World → Prop} {t b off T fz} {l vs : List Value} (ha : ∀ w, (isAgg t).run P w = .ok true w)
    (hz : ∀ w, (sizeOf t).run P w = .ok vs.length w) (hb : AtB S b (.cells l.toArray T fz)) (hv : cellsAt l off vs) (w : World) (hs : S w) : (loadVar t ⟨b, off, none⟩).run P w = .ok (.agg vs.toArray) w := by
  have := run_loadCells (P := P) (hb w hs) vs 0 #[] (by simpa using hv)
  simp [loadVar, ha, hz, loadCells, this]
theorem run_load1 {S : World → Prop} {t b off T fz v} {l : List Value} (ha : ∀ w, (isAgg t).run P w = .ok false w)
    (hb : AtB S b (.cells l.toArray T fz)) (hv : l[off]? = some v) (w : World) (hs : S w) : (loadVar t ⟨b, off, none⟩).run P w = .ok v w := by
  simp [loadVar, ha, run_cell (hb w hs) hv, -run_load]
/-- A result in a cell: what reading it gives. -/
def RdC (P : Program) (S : World → Prop) (t : TypeId) (p : Addr) (v : Value) : Prop := ∀ w, S w → (loadVar t p).run P w = .ok v w
theorem Res.c {a t p v} (hr : fn.results = #[.cell a t]) (ha : flGet L a = some (.pointer (some p))) (h : RdC P (fun w => St w0 w H) t p v) : Res P fn L w0 H v := fun tmps w hk hs => by
  have h1 := getD_of (hk a _ ha)
  have h2 := h w hs
  rw [Array.getD_eq_getD_getElem?] at h1
  simp [results, hr, h1, asAddr, h2]
theorem Res.cc {a t p v a' t' p' v'} (hr : fn.results = #[.cell a t, .cell a' t']) (ha : flGet L a = some (.pointer (some p))) (h : RdC P (fun w => St w0 w H) t p v)
    (ha' : flGet L a' = some (.pointer (some p'))) (h' : RdC P (fun w => St w0 w H) t' p' v') : Res P fn L w0 H (.tuple #[v, v']) := fun tmps w hk hs => by
  have h1 := getD_of (hk a _ ha)
  have h2 := h w hs
  have h1' := getD_of (hk a' _ ha')
  have h2' := h' w hs
  rw [Array.getD_eq_getD_getElem?] at h1 h1'
  simp [results, hr, h1, asAddr, h2, h1', h2']
theorem Res.ct {a t p v u x} (hr : fn.results = #[.cell a t, .tmp u]) (ha : flGet L a = some (.pointer (some p))) (h : RdC P (fun w => St w0 w H) t p v)
    (hu : flGet L u = some x) : Res P fn L w0 H (.tuple #[v, x]) := fun tmps w hk hs => by
  have h1 := getD_of (hk a _ ha)
  have h2 := h w hs
  have h3 := getD_of (hk u _ hu)
  rw [Array.getD_eq_getD_getElem?] at h1 h3
  simp [results, hr, h1, asAddr, h2, h3]
theorem Res.tc {a t p v u x} (hr : fn.results = #[.tmp u, .cell a t]) (ha : flGet L a = some (.pointer (some p))) (h : RdC P (fun w => St w0 w H) t p v)
    (hu : flGet L u = some x) : Res P fn L w0 H (.tuple #[x, v]) := fun tmps w hk hs => by
  have h1 := getD_of (hk a _ ha)
  have h2 := h w hs
  have h3 := getD_of (hk u _ hu)
  rw [Array.getD_eq_getD_getElem?] at h1 h3
  simp [results, hr, h1, asAddr, h2, h3]
end
end Go.Proofs.YtdbpandamnkpdaaDoor
