/-
  Maps of one's own: their entries in the order in which they lie; look-up, store, delete, length; going through one.
-/
import Derived.Test.YtdbpandamnkpdaaDoorBf
set_option linter.unusedSimpArgs false
set_option linter.unusedVariables false
set_option linter.unusedSectionVars false
namespace Go.Proofs.YtdbpandamnkpdaaDoor
open Go Go.RowKit

/-- An entry: its key, its value, its stamp. -/
abbrev Ent (κ : Type) := κ × Value × Nat
def mkE {κ : Type} (ke : κ → Value) (x : Ent κ) : MapEntry := { key := ke x.1, val := x.2.1, born := x.2.2 }
def mapObj {κ : Type} (ke : κ → Value) (es : List (Ent κ)) (clk : Nat) : Obj := .map (es.map (mkE ke)).toArray clk

section
variable {κ : Type} [DecidableEq κ]
/-- Where a key stands first, and its value. -/
def place (k : κ) : List (Ent κ) → Nat → Option (Nat × Value)
  | [], _ => none
  | e :: es, i => if k = e.1 then some (i, e.2.1) else place k es (i + 1)
def valOf (k : κ) (es : List (Ent κ)) : Option Value := (place k es 0).map (·.2)
def setE (k : κ) (v : Value) : List (Ent κ) → List (Ent κ)
  | [] => []
  | e :: es => if k = e.1 then (e.1, v, e.2.2) :: es else e :: setE k v es
def delE (k : κ) : List (Ent κ) → List (Ent κ)
  | [] => []
  | e :: es => if k = e.1 then es else e :: delE k es

theorem place_shift (k : κ) : ∀ (es : List (Ent κ)) (i : Nat), place k es i = (place k es 0).map fun p => (p.1 + i, p.2)
  | [], i => rfl
  | e :: es, i => by
    unfold place
    split
    · simp
    · rw [place_shift k es (i + 1), place_shift k es (0 + 1)]
      simp only [Option.map_map]
      congr 1
      funext p
      simp; omega
theorem place_some {k : κ} : ∀ {es : List (Ent κ)} {i v}, place k es 0 = some (i, v) → ∃ e, es[i]? = some e ∧ e.1 = k ∧ e.2.1 = v
  | [], i, v, h => by simp [place] at h
  | e :: es, i, v, h => by
    unfold place at h
    split at h
    · rename_i hk
      simp only [Option.some.injEq, Prod.mk.injEq] at h
      obtain ⟨rfl, rfl⟩ := h
      exact ⟨e, rfl, hk.symm, rfl⟩
    · rw [place_shift] at h
      simp only [Option.map_eq_some_iff] at h
      obtain ⟨⟨i', v'⟩, h1, h2⟩ := h
      simp only [Prod.mk.injEq] at h2
      obtain ⟨rfl, rfl⟩ := h2
      obtain ⟨e', h3, h4⟩ := place_some h1
      exact ⟨e', by simpa using h3, h4⟩
theorem place_none {k : κ} : ∀ {es : List (Ent κ)}, place k es 0 = none → ∀ e ∈ es, e.1 ≠ k
  | [], _, e, he => by cases he
  | e0 :: es, h, e, he => by
    unfold place at h
    split at h
    · cases h
    · rename_i hk
      rw [place_shift] at h
      simp only [Option.map_eq_none_iff] at h
      rcases List.mem_cons.1 he with rfl | he
      · exact Ne.symm hk
      · exact place_none h e he
theorem valOf_none {k : κ} {es : List (Ent κ)} (h : valOf k es = none) : place k es 0 = none := by
  unfold valOf at h; simpa using h
theorem valOf_some {k : κ} {es : List (Ent κ)} {v} (h : valOf k es = some v) : ∃ i, place k es 0 = some (i, v) := by
  unfold valOf at h
  simp only [Option.map_eq_some_iff] at h
  obtain ⟨⟨i, v'⟩, h1, rfl⟩ := h
  exact ⟨i, h1⟩
theorem setE_modify {k : κ} {v u : Value} {ke : κ → Value} : ∀ {es : List (Ent κ)} {i}, place k es 0 = some (i, u) →
    ((es.map (mkE ke)).modify i fun e => { e with key := ke k, val := v }) = (setE k v es).map (mkE ke)
  | [], i, h => by simp [place] at h
  | e :: es, i, h => by
    unfold place at h
    unfold setE
    split at h
    · rename_i hk
      simp only [Option.some.injEq, Prod.mk.injEq] at h
      obtain ⟨rfl, rfl⟩ := h
      simp [hk, mkE]
    · rename_i hk
      rw [place_shift] at h
      simp only [Option.map_eq_some_iff] at h
      obtain ⟨⟨i', v'⟩, h1, h2⟩ := h
      simp only [Prod.mk.injEq] at h2
      obtain ⟨rfl, rfl⟩ := h2
      simp only [hk, if_false, List.map_cons]
      rw [← setE_modify h1]
      simp [List.modify_succ_cons]
theorem delE_erase {k : κ} {u : Value} {ke : κ → Value} : ∀ {es : List (Ent κ)} {i}, place k es 0 = some (i, u) →
    ((es.map (mkE ke)).eraseIdx i) = (delE k es).map (mkE ke)
  | [], i, h => by simp [place] at h
  | e :: es, i, h => by
    unfold place at h
    unfold delE
    split at h
    · rename_i hk
      simp only [Option.some.injEq, Prod.mk.injEq] at h
      obtain ⟨rfl, rfl⟩ := h
      simp [hk]
    · rename_i hk
      rw [place_shift] at h
      simp only [Option.map_eq_some_iff] at h
      obtain ⟨⟨i', v'⟩, h1, h2⟩ := h
      simp only [Prod.mk.injEq] at h2
      obtain ⟨rfl, rfl⟩ := h2
      simp only [hk, if_false, List.map_cons]
      rw [← delE_erase h1]
      simp
theorem delE_none {k : κ} : ∀ {es : List (Ent κ)}, place k es 0 = none → delE k es = es
  | [], _ => rfl
  | e :: es, h => by
    unfold place at h
    split at h
    · cases h
    · rename_i hk
      rw [place_shift] at h
      simp only [Option.map_eq_none_iff] at h
      unfold delE
      rw [if_neg hk, delE_none h]

theorem ba_beq (a b : ByteArray) : (a == b) = decide (a = b) := by
  cases a with | mk x => cases b with | mk y =>
  have : ((⟨x⟩ : ByteArray) == ⟨y⟩) = (x == y) := rfl
  rw [this, Bool.eq_iff_iff]
  simp

/-- What is asked of a key's type. -/
structure KL (P : Program) (kt : TypeId) (ke : κ → Value) : Prop where
  check : ∀ b k w, (Instr.checkKey b 10000 kt (ke k)).run P w = .ok () w
  find : ∀ k (es : List (Ent κ)) w, (Instr.findKey kt (ke k) (es.map (mkE ke))).run P w = .ok (place k es 0) w
  same : ∀ k, Instr.sameBits 10000 (ke k) (ke k) = true

theorem findNow_of {P : Program} {kt : TypeId} {d : TypeDesc} {ke : κ → Value} (hd : ∀ w, (underlying kt).run P w = .ok d w) (hs : ∀ a b, Instr.sameNow d (ke a) (ke b) = some (decide (a = b))) :
    ∀ k (es : List (Ent κ)) w, (Instr.findKey kt (ke k) (es.map (mkE ke))).run P w = .ok (place k es 0) w := by
  have h : ∀ k (es : List (Ent κ)) i, Instr.findNow d (ke k) (es.map (mkE ke)) i = some (place k es i) := by
    intro k es
    induction es with
    | nil => intro i; rfl
    | cons e es ih =>
      intro i
      simp only [List.map_cons, Instr.findNow, mkE, hs]
      unfold place
      by_cases hk : k = e.1
      · simp [hk]
      · simp only [hk, decide_false, if_false]
        exact ih (i + 1)
  intro k es w
  simp [Instr.findKey, hd, h]

theorem KL.int {P : Program} {kt : TypeId} {q : IntKind} (hd : ∀ w, (underlying kt).run P w = .ok (.int q) w) : KL P kt (fun n : Int => Value.int q n) where
  check := fun b k w => by
    unfold Instr.checkKey
    rw [Sem.run_bind, hd]
    rfl
  find := findNow_of hd fun a b => by
    by_cases h : a = b <;> simp [Instr.sameNow, h]
  same := fun k => by simp [Instr.sameBits]
theorem KL.str {P : Program} {kt : TypeId} (hd : ∀ w, (underlying kt).run P w = .ok .string w) : KL P kt (fun s : ByteArray => Value.string s) where
  check := fun b k w => by
    unfold Instr.checkKey
    rw [Sem.run_bind, hd]
    rfl
  find := findNow_of hd fun a b => by simp [Instr.sameNow, ba_beq]
  same := fun k => by simp [Instr.sameBits, ba_beq]
end

section
variable {P : Program} {L : Fl} {ty : TypeId} {w0 : World} {H H' R : List Chunk} {S : World → Prop} {κ : Type} [DecidableEq κ] {ke : κ → Value} {kt et : TypeId} {t : TypeId}

theorem run_getObj {w : World} {b : Nat} {es clk} (hb : w.heap[b]? = some (.map es clk)) : (getObj b).run P w = .ok (.map es clk) w := by simp [getObj, Sem.run, hb]
theorem run_setObj {w : World} {b : Nat} {es clk} (o : Obj) (hb : w.heap[b]? = some (.map es clk)) : (setObj b o).run P w = .ok () (w.putObj b o) := by simp [setObj, Sem.run, hb, World.putObj]

theorem run_lookup {w : World} {b : Nat} {es : List (Ent κ)} {clk k z} (K : KL P kt ke) (ht : ∀ w, (underlying t).run P w = .ok (.map kt et) w) (hz : ∀ w, (zeroValue et).run P w = .ok z w) (hb : w.heap[b]? = some (mapObj ke es clk)) (ok : Bool) :
    (Instr.lookup t (.map (some b)) (ke k) ok).run P w = .ok (if ok then .tuple #[(valOf k es).getD z, .bool (valOf k es).isSome] else (valOf k es).getD z) w := by
  have hg : (getObj b).run P w = .ok (.map (es.map (mkE ke)).toArray clk) w := run_getObj hb
  unfold Instr.lookup
  simp only [Sem.run_bind, ht, Result.andThen_ok, hg, Sem.run_pure, K.check, List.toList_toArray, K.find]
  unfold valOf
  cases place k es 0 with
  | none => simp [hz]
  | some p => simp

theorem EvR.lookup {x i : Operand} {b : Nat} {es : List (Ent κ)} {clk k z} (K : KL P kt ke) (ht : ∀ w, (underlying t).run P w = .ok (.map kt et) w) (hz : ∀ w, (zeroValue et).run P w = .ok z w)
    (hx : ev L x = some (.map (some b))) (hi : ev L i = some (ke k)) (hb : AtB S b (mapObj ke es clk)) : EvR P (.lookup t x i false) ty L S ((valOf k es).getD z) := fun ρ hk w hs _ _ _ _ => by
  have := run_lookup (k := k) K ht hz (hb w hs) false
  simp [execOp, hk _ _ hx, hk _ _ hi, this]
theorem EvR.lookupOk {x i : Operand} {b : Nat} {es : List (Ent κ)} {clk k z} (K : KL P kt ke) (ht : ∀ w, (underlying t).run P w = .ok (.map kt et) w) (hz : ∀ w, (zeroValue et).run P w = .ok z w)
    (hx : ev L x = some (.map (some b))) (hi : ev L i = some (ke k)) (hb : AtB S b (mapObj ke es clk)) : EvR P (.lookup t x i true) ty L S (.tuple #[(valOf k es).getD z, .bool (valOf k es).isSome]) := fun ρ hk w hs _ _ _ _ => by
  have := run_lookup (k := k) K ht hz (hb w hs) true
  simp [execOp, hk _ _ hx, hk _ _ hi, this]
theorem EvR.lenM {x : Operand} {b : Nat} {es : List (Ent κ)} {clk} (ht : ∀ w, (underlying t).run P w = .ok (.map kt et) w) (hx : ev L x = some (.map (some b))) (hb : AtB S b (mapObj ke es clk)) :
    EvR P (.call { callee := .builtin .len, args := #[x], argTypes := #[t] }) ty L S (.int .i64 es.length) := fun ρ hk w hs _ _ _ _ => by
  have hg : (getObj b).run P w = .ok (.map (es.map (mkE ke)).toArray clk) w := run_getObj (hb w hs)
  simp [execOp, resolve, invoke, builtin, hk _ _ hx, Builtin.len_, ht, hg, goInt]

theorem EvW.makeMap : EvW P (.makeMap t none) ty L w0 H (fun u H' => ∃ b, u = .map (some b) ∧ H' = [(b, mapObj ke [] 0)] :: H) := fun ρ hk w hs _ _ _ _ => by
  refine ⟨_, _, _, ?_, ⟨w.heap.size, rfl, rfl⟩, hs.alloc _⟩
  simp [execOp, Instr.makeMap, mapObj]
theorem TL.makeMap {c : Cx} {ops Q d pos aft rest} (ke : κ → Value) (k : ∀ b, TL c ops Q rest ((d, .map (some b)) :: L) ([(b, mapObj ke [] 0)] :: H)) (hd : Nat.blt d c.N = true := by rfl) :
    TL c ops Q (⟨some d, .makeMap t none, ty, pos, aft, none⟩ :: rest) L H :=
  TL.w (EvW.makeMap (ke := ke)) (by rintro v H' ⟨b, rfl, rfl⟩; exact k b) hd

theorem run_update {w : World} {b : Nat} {es : List (Ent κ)} {clk k v} (K : KL P kt ke) (ht : ∀ w, (underlying t).run P w = .ok (.map kt et) w) (hb : w.heap[b]? = some (mapObj ke es clk)) :
    (Instr.mapUpdate t (.map (some b)) (ke k) v).run P w = .ok () (w.putObj b (if (valOf k es).isSome then mapObj ke (setE k v es) clk else mapObj ke (es ++ [(k, v, clk)]) (clk + 1))) := by
  have hg : (getObj b).run P w = .ok (.map (es.map (mkE ke)).toArray clk) w := run_getObj hb
  have hs : ∀ o, (setObj b o).run P w = .ok () (w.putObj b o) := fun o => run_setObj o hb
  unfold Instr.mapUpdate
  simp only [Sem.run_bind, ht, Result.andThen_ok, hg, K.check, List.toList_toArray, K.find]
  unfold valOf
  cases hp : place k es 0 with
  | none =>
    simp only [hs, Option.map_none, Option.isSome_none, Bool.false_eq_true, if_false]
    congr 2
    simp [mapObj, mkE]
  | some p =>
    obtain ⟨i, u⟩ := p
    obtain ⟨e, h1, h2, h3⟩ := place_some hp
    have hkey : (((es.map (mkE ke)).toArray[i]?).map (·.key)).getD (ke k) = ke k := by simp [h1, mkE, h2]
    have hstay : (Instr.keyThatStays (ke k) (ke k)).run P w = .ok (ke k) w := by simp [Instr.keyThatStays, K.same]
    simp only [hkey, Sem.run_bind, hstay, Result.andThen_ok, hs, Option.map_some, Option.isSome_some, if_true]
    congr 2
    have := setE_modify (ke := ke) (v := v) hp
    simp [mapObj, ← this]

theorem EvU.putNew {x i y : Operand} {b : Nat} {es : List (Ent κ)} {clk k v} (K : KL P kt ke) (ht : ∀ w, (underlying t).run P w = .ok (.map kt et) w) (hx : ev L x = some (.map (some b))) (hi : ev L i = some (ke k)) (hy : ev L y = some v)
    (hn : valOf k es = none) (hu : Upd H b (mapObj ke es clk) (mapObj ke (es ++ [(k, v, clk)]) (clk + 1)) H') : EvU P (.mapUpdate t x i y) ty L w0 H H' := fun ρ hk w hs _ _ _ _ => by
  have hr := run_update (k := k) (v := v) K ht (hs.has hu.has)
  simp only [hn, Option.isSome_none, Bool.false_eq_true, if_false] at hr
  exact ⟨_, by simp [execOp, hk _ _ hx, hk _ _ hi, hk _ _ hy, hr], hs.upd hu⟩
theorem EvU.putOld {x i y : Operand} {b : Nat} {es : List (Ent κ)} {clk k v u} (K : KL P kt ke) (ht : ∀ w, (underlying t).run P w = .ok (.map kt et) w) (hx : ev L x = some (.map (some b))) (hi : ev L i = some (ke k)) (hy : ev L y = some v)
    (hn : valOf k es = some u) (hu : Upd H b (mapObj ke es clk) (mapObj ke (setE k v es) clk) H') : EvU P (.mapUpdate t x i y) ty L w0 H H' := fun ρ hk w hs _ _ _ _ => by
  have hr := run_update (k := k) (v := v) K ht (hs.has hu.has)
  simp only [hn, Option.isSome_some, if_true] at hr
  exact ⟨_, by simp [execOp, hk _ _ hx, hk _ _ hi, hk _ _ hy, hr], hs.upd hu⟩
theorem EvU.insertNew {x i y : Operand} {b : Nat} {es : List (Ent κ)} {clk k v} (K : KL P kt ke) (ht : ∀ w, (underlying t).run P w = .ok (.map kt et) w) (hx : ev L x = some (.map (some b))) (hi : ev L i = some (ke k)) (hy : ev L y = some v)
    (hn : valOf k es = none) (hu : Upd H b (mapObj ke es clk) (mapObj ke (es ++ [(k, v, clk)]) (clk + 1)) H') : EvU P (.insert t x i y) ty L w0 H H' := fun ρ hk w hs _ _ _ _ => by
  have hr := run_update (k := k) (v := v) K ht (hs.has hu.has)
  simp only [hn, Option.isSome_none, Bool.false_eq_true, if_false] at hr
  exact ⟨_, by simp [execOp, hk _ _ hx, hk _ _ hi, hk _ _ hy, hr], hs.upd hu⟩

/-- delete: there or not. -/
theorem EvW.delete {x i : Operand} {t2 : TypeId} {b : Nat} {es : List (Ent κ)} {clk k} (K : KL P kt ke) (ht : ∀ w, (underlying t).run P w = .ok (.map kt et) w) (hx : ev L x = some (.map (some b))) (hi : ev L i = some (ke k))
    (hu : Upd H b (mapObj ke es clk) (mapObj ke (delE k es) clk) H') : EvW P (.call { callee := .builtin .delete, args := #[x, i], argTypes := #[t, t2] }) ty L w0 H (fun u H'' => u = .tuple #[] ∧ H'' = H') := fun ρ hk w hs _ _ _ _ => by
  have hb := hs.has hu.has
  have hg : (getObj b).run P w = .ok (.map (es.map (mkE ke)).toArray clk) w := run_getObj hb
  have hso : ∀ o, (setObj b o).run P w = .ok () (w.putObj b o) := fun o => run_setObj o hb
  refine ⟨.tuple #[], w.putObj b (mapObj ke (delE k es) clk), H', ?_, ⟨rfl, rfl⟩, hs.upd hu⟩
  have hr : (Builtin.delete_ #[t, t2] ty #[.map (some b), ke k]).run P w = .ok (.tuple #[]) (w.putObj b (mapObj ke (delE k es) clk)) := by
    simp only [Builtin.delete_, List.getElem?_toArray, List.getElem?_cons_zero, List.getElem?_cons_succ, Sem.run_bind, ht, Result.andThen_ok, hg, K.check, List.toList_toArray, K.find]
    cases hp : place k es 0 with
    | none => simp [hso, delE_none hp, mapObj]
    | some p =>
      obtain ⟨j, u⟩ := p
      have := delE_erase (ke := ke) hp
      obtain ⟨e, h1, _⟩ := place_some hp
      have hlt : j < es.length := (List.getElem?_eq_some_iff.1 h1).1
      simp [hso, Array.eraseIdxIfInBounds, hlt, mapObj, ← this]
  simp [execOp, resolve, invoke, builtin, hk _ _ hx, hk _ _ hi, hr]
theorem TL.delete0 {c : Cx} {ops Q pos aft rest} {x i : Operand} {t2 : TypeId} {b : Nat} {es : List (Ent κ)} {clk k} (K : KL c.P kt ke) (ht : ∀ w, (underlying t).run c.P w = .ok (.map kt et) w) (hx : ev L x = some (.map (some b))) (hi : ev L i = some (ke k))
    (hu : Upd H b (mapObj ke es clk) (mapObj ke (delE k es) clk) H') (kk : TL c ops Q rest L H') :
    TL c ops Q (⟨none, .call { callee := .builtin .delete, args := #[x, i], argTypes := #[t, t2] }, ty, pos, aft, none⟩ :: rest) L H :=
  TL.w0 (EvW.delete K ht hx hi hu) (by rintro v H'' ⟨rfl, rfl⟩; exact kk)

/-! ### going through a map -/
/-- The iterator of a map m, when the entries D have come. -/
def iterObj {κ : Type} (m clk : Nat) (D : List (Ent κ)) : Obj := .mapIter (some m) clk (D.map (·.2.2)).toArray clk
/-- Stamps: each once, all below the clock. -/
def Stamped {κ : Type} (es : List (Ent κ)) (clk : Nat) : Prop := (es.map (·.2.2)).Nodup ∧ ∀ e ∈ es, e.2.2 < clk

theorem EvW.range {x : Operand} {b : Nat} {es : List (Ent κ)} {clk} (ht : ∀ w, (underlying t).run P w = .ok (.map kt et) w) (hx : ev L x = some (.map (some b))) (hb : AtB (fun w => St w0 w H) b (mapObj ke es clk)) :
    EvW P (.range t x) ty L w0 H (fun u H' => ∃ r, u = .pointer (some ⟨r, 0, none⟩) ∧ H' = [(r, iterObj (κ := κ) b clk [])] :: H) := fun ρ hk w hs _ _ _ _ => by
  have hg : (getObj b).run P w = .ok (.map (es.map (mkE ke)).toArray clk) w := run_getObj (hb w hs)
  refine ⟨_, _, _, ?_, ⟨w.heap.size, rfl, rfl⟩, hs.alloc _⟩
  simp [execOp, hk _ _ hx, Instr.range, ht, hg, iterObj]
theorem TL.range {c : Cx} {ops Q d pos aft rest} {x : Operand} {b : Nat} {es : List (Ent κ)} {clk} (ht : ∀ w, (underlying t).run c.P w = .ok (.map kt et) w) (hx : ev L x = some (.map (some b))) (hb : AtB (fun w => St c.w0 w H) b (mapObj ke es clk))
    (k : ∀ r, TL c ops Q rest ((d, .pointer (some ⟨r, 0, none⟩)) :: L) ([(r, iterObj (κ := κ) b clk [])] :: H)) (hd : Nat.blt d c.N = true := by rfl) :
    TL c ops Q (⟨some d, .range t x, ty, pos, aft, none⟩ :: rest) L H :=
  TL.w (EvW.range ht hx hb) (by rintro v H' ⟨b, rfl, rfl⟩; exact k b) hd

theorem mem_drop_of {κ : Type} [DecidableEq κ] {es : List (Ent κ)} {clk : Nat} (hS : Stamped es clk) {e : Ent κ} {D : List (Ent κ)} (hD : ∀ x ∈ D, x ∈ es) (he : e ∈ es) : e.2.2 ∈ D.map (·.2.2) ↔ e ∈ D := by
  constructor
  · intro h
    obtain ⟨x, hx, hxe⟩ := List.mem_map.1 h
    have : x = e := by
      have hn := hS.1
      have hx' := hD x hx
      clear h hD hS
      induction es with
      | nil => cases hx'
      | cons y ys ih =>
        simp only [List.map_cons, List.nodup_cons] at hn
        rcases List.mem_cons.1 hx' with h1 | h1 <;> rcases List.mem_cons.1 he with h2 | h2
        · rw [h1, h2]
        · subst h1; exact absurd (List.mem_map.2 ⟨e, h2, hxe.symm⟩) hn.1
        · subst h2; exact absurd (List.mem_map.2 ⟨x, h1, hxe⟩) hn.1
        · exact ih h2 hn.2 h1
    exact this ▸ hx
  · intro h; exact List.mem_map.2 ⟨e, h, rfl⟩

/-- One step: nothing is left; or an entry comes that had not come. -/
theorem run_next {w : World} {r b : Nat} {es D : List (Ent κ)} {clk} (hb : w.heap[b]? = some (mapObj ke es clk)) (hr : w.heap[r]? = some (iterObj b clk D)) (hS : Stamped es clk) (hD : ∀ x ∈ D, x ∈ es) :
    (∃ w', (Instr.next (.pointer (some ⟨r, 0, none⟩)) false ty).run P w = .ok (.tuple #[.bool false]) w' ∧ (∃ n, w' = { w with drawn := n }) ∧ ∀ e ∈ es, e ∈ D) ∨
    (∃ e w', e ∈ es ∧ e ∉ D ∧ (Instr.next (.pointer (some ⟨r, 0, none⟩)) false ty).run P w = .ok (.tuple #[.bool true, ke e.1, e.2.1]) w' ∧ ∃ n, w' = ({ w with drawn := n } : World).putObj r (iterObj b clk (D ++ [e]))) := by
  have hgr : ∀ w' : World, w'.heap = w.heap → (getObj r).run P w' = .ok (iterObj b clk D) w' := fun w' e => by simp [getObj, Sem.run, e, hr, iterObj]
  have hgb : ∀ w' : World, w'.heap = w.heap → (getObj b).run P w' = .ok (.map (es.map (mkE ke)).toArray clk) w' := fun w' e => run_getObj (by rw [e]; exact hb)
  have hsr : ∀ (w' : World) (o : Obj), w'.heap = w.heap → (setObj r o).run P w' = .ok () (w'.putObj r o) := fun w' o e => by simp [setObj, Sem.run, e, hr, iterObj, World.putObj]
  -- what is left
  obtain ⟨left, hleft⟩ : ∃ left : List (Ent κ), left = es.filter (fun e => !(D.map (·.2.2)).contains e.2.2) := ⟨_, rfl⟩
  have hleftm : ∀ e, e ∈ left ↔ e ∈ es ∧ e ∉ D := by
    intro e
    rw [hleft, List.mem_filter]
    constructor
    · rintro ⟨h1, h2⟩
      refine ⟨h1, fun h => ?_⟩
      have := (mem_drop_of hS hD h1).2 h
      simp only [Bool.not_eq_true', List.contains_eq_mem, decide_eq_false_iff_not] at h2
      exact h2 this
    · rintro ⟨h1, h2⟩
      refine ⟨h1, ?_⟩
      simp only [Bool.not_eq_true', List.contains_eq_mem, decide_eq_false_iff_not]
      exact fun h => h2 ((mem_drop_of hS hD h1).1 h)
  have hfilt : ((es.map (mkE ke)).toArray.filter fun e => !(D.map (·.2.2)).toArray.contains e.born) = (left.map (mkE ke)).toArray := by
    rw [List.filter_toArray, hleft, List.filter_map]
    congr 2
    apply List.filter_congr
    intro e he
    simp [Function.comp, mkE]
  have hold : ((left.map (mkE ke)).toArray.filter (·.born < clk)) = (left.map (mkE ke)).toArray := by
    rw [List.filter_toArray]
    congr 1
    rw [List.filter_eq_self]
    intro e he
    obtain ⟨x, hx, rfl⟩ := List.mem_map.1 he
    exact decide_eq_true (hS.2 x ((hleftm x).1 hx).1)
  have hnew : ((left.map (mkE ke)).toArray.filter (·.born ≥ clk)) = #[] := by
    rw [List.filter_toArray]
    have : (left.map (mkE ke)).filter (fun e => decide (e.born ≥ clk)) = [] := by
      rw [List.filter_eq_nil_iff]
      intro e he
      obtain ⟨x, hx, rfl⟩ := List.mem_map.1 he
      have := hS.2 x ((hleftm x).1 hx).1
      simp [mkE]; omega
    rw [this]
  have hgone : ((!(D.map (·.2.2)).toArray.isEmpty && !(es.map (mkE ke)).toArray.isEmpty && (es.map (mkE ke)).toArray.all (·.born ≥ clk))) = false := by
    cases es with
    | nil => simp
    | cons e es =>
      have := hS.2 e (by simp)
      have h2 : ((e :: es).map (mkE ke)).toArray.all (fun x => decide (x.born ≥ clk)) = false := by
        simp only [List.map_cons, List.all_toArray, List.all_cons, mkE]
        have : decide (e.2.2 ≥ clk) = false := by simp; omega
        rw [this]; rfl
      rw [h2, Bool.and_false]
  unfold Instr.next
  simp only [Sem.run_bind, hgr w rfl, Result.andThen_ok, iterObj, hgb w rfl, hgone, hfilt, hold, hnew, Bool.false_eq_true, if_false, Sem.run_pure]
  cases hl : left with
  | nil =>
    left
    have hall : ∀ e ∈ es, e ∈ D := by
      intro e he
      by_cases h : e ∈ D
      · exact h
      · have : e ∈ left := (hleftm e).2 ⟨he, h⟩
        rw [hl] at this; cases this
    have hch : (choose (.mapNext 1)).run P w = .ok 0 w := by simp [Question.forced]
    refine ⟨w, ?_, ⟨w.drawn, rfl⟩, hall⟩
    simp [hch, Question.forced]
  | cons e0 l0 =>
    right
    have hcand : (if ((e0 :: l0).map (mkE ke)).toArray.isEmpty = true then #[none] else #[] : Array (Option MapEntry)) ++ (((e0 :: l0).map (mkE ke)).toArray ++ #[]).map some = ((e0 :: l0).map fun x => some (mkE ke x)).toArray := by
      simp
    -- the tape's answer names one of them
    have hpick : ∃ i n, i < (e0 :: l0).length ∧ (choose (.mapNext ((e0 :: l0).map fun x => some (mkE ke x)).toArray.size)).run P w = .ok i { w with drawn := n } := by
      by_cases hf : l0 = []
      · subst hf
        exact ⟨0, w.drawn, by simp, by simp [Question.forced]⟩
      · have hlen : 0 < l0.length := List.length_pos_iff.2 hf
        refine ⟨w.tape w.drawn (.mapNext ((e0 :: l0).map fun x => some (mkE ke x)).toArray.size) % (e0 :: l0).length, w.drawn + 1, Nat.mod_lt _ (by simp), ?_⟩
        have hq : (Question.mapNext ((e0 :: l0).map fun x => some (mkE ke x)).toArray.size).forced = false := by simp [Question.forced]; omega
        simp only [run_choose_drew, hq, Bool.false_eq_true, if_false]
        simp only [List.size_toArray, List.length_map]
        rfl
    obtain ⟨i, n, hi, hpick⟩ := hpick
    have he : ∃ e, (e0 :: l0)[i]? = some e := ⟨_, List.getElem?_eq_getElem hi⟩
    obtain ⟨e, he⟩ := he
    have hmem : e ∈ left := by rw [hl]; exact List.mem_of_getElem? he
    obtain ⟨hes, hnD⟩ := (hleftm e).1 hmem
    refine ⟨e, ({ w with drawn := n } : World).putObj r (iterObj b clk (D ++ [e])), hes, hnD, ?_, ⟨n, rfl⟩⟩
    simp only [hcand]
    rw [hpick]
    simp only [Result.andThen_ok, List.getElem?_toArray, List.getElem?_map, he, Option.map_some, Sem.run_bind]
    rw [hsr { w with drawn := n } _ rfl]
    simp [mkE, iterObj]

theorem run_entry {w : World} {r b : Nat} {es D : List (Ent κ)} {e : Ent κ} {clk} (hb : w.heap[b]? = some (mapObj ke es clk)) (hr : w.heap[r]? = some (iterObj b clk (D ++ [e]))) (hS : Stamped es clk) (he : e ∈ es) :
    (Instr.entry (.pointer (some ⟨r, 0, none⟩))).run P w = .ok (.tuple #[ke e.1, e.2.1]) w := by
  have hgr : (getObj r).run P w = .ok (iterObj b clk (D ++ [e])) w := by simp [getObj, Sem.run, hr, iterObj]
  have hgb : (getObj b).run P w = .ok (.map (es.map (mkE ke)).toArray clk) w := run_getObj hb
  have hfind : ((es.map (mkE ke)).toArray.find? fun x => x.born == e.2.2) = some (mkE ke e) := by
    have hn := hS.1
    rw [List.find?_toArray]
    clear hb hgb hS
    induction es with
    | nil => cases he
    | cons x es ih =>
      simp only [List.map_cons, List.nodup_cons] at hn
      simp only [List.map_cons, List.find?_cons]
      by_cases hx : x.2.2 = e.2.2
      · have : x = e := by
          rcases List.mem_cons.1 he with rfl | he
          · rfl
          · exact absurd (List.mem_map.2 ⟨e, he, hx.symm⟩) hn.1
        subst this
        simp [mkE]
      · have he' : e ∈ es := by
          rcases List.mem_cons.1 he with rfl | he
          · exact absurd rfl hx
          · exact he
        have : ((mkE ke x).born == e.2.2) = false := by simp [mkE, hx]
        rw [this]
        exact ih he' hn.2
  unfold Instr.entry
  simp only [Sem.run_bind, hgr, Result.andThen_ok, iterObj]
  simp [hgb, hfind, mkE]

theorem TL.next {c : Cx} {ops Q d pos aft rest} {x : Operand} {r b : Nat} {es D : List (Ent κ)} {clk} (hx : ev L x = some (.pointer (some ⟨r, 0, none⟩))) (hb : AtB (fun w => St c.w0 w H) b (mapObj ke es clk)) (hS : Stamped es clk) (hD : ∀ x ∈ D, x ∈ es)
    (hr : Has H r (iterObj b clk D))
    (kd : (∀ e ∈ es, e ∈ D) → TL c ops Q rest ((d, .tuple #[.bool false]) :: L) H)
    (km : ∀ e, e ∈ es → e ∉ D → ∃ H', Upd H r (iterObj b clk D) (iterObj b clk (D ++ [e])) H' ∧ TL c ops Q rest ((d, .tuple #[.bool true, ke e.1, e.2.1]) :: L) H') (hd : Nat.blt d c.N = true := by rfl) :
    TL c ops Q (⟨some d, .next x false, ty, pos, aft, none⟩ :: rest) L H := by
  intro a w hf hs
  refine wpl_step rfl rfl ?_
  rcases run_next (P := c.P) (ty := ty) (hb w hs) (hs.has hr) hS hD with ⟨w', hrun, ⟨n, rfl⟩, hall⟩ | ⟨e, w', he, hnD, hrun, n, rfl⟩
  · simp only [execOp, hf.ev hx, Sem.run_bind, hrun, Result.andThen_ok, Sem.run_pure]
    exact kd hall _ _ (hf.put hd _) (hs.drawn n)
  · simp only [execOp, hf.ev hx, Sem.run_bind, hrun, Result.andThen_ok, Sem.run_pure]
    obtain ⟨H', hu, k⟩ := km e he hnD
    exact k _ _ (hf.put hd _) ((hs.drawn n).upd hu)
theorem EvR.entry {x : Operand} {r b : Nat} {es D : List (Ent κ)} {e : Ent κ} {clk} (hx : ev L x = some (.pointer (some ⟨r, 0, none⟩))) (hb : AtB S b (mapObj ke es clk)) (hr : AtB S r (iterObj b clk (D ++ [e]))) (hS : Stamped es clk) (he : e ∈ es) :
    EvR P (.entry x) ty L S (.tuple #[ke e.1, e.2.1]) := fun ρ hk w hs _ _ _ _ => by
  have := run_entry (P := P) (hb w hs) (hr w hs) hS he
  simp [execOp, hk _ _ hx, this]
end
end Go.Proofs.YtdbpandamnkpdaaDoor
