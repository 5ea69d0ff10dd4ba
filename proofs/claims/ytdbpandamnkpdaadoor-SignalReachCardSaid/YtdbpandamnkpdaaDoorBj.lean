/-
  Structs that are compared, keys of two numbers, the lesser and the greater of two; a cell known by itself.
-/
import Derived.Test.YtdbpandamnkpdaaDoorBi
import Derived.Laws.StructEq
import Derived.WideKeyRuns
set_option linter.unusedSimpArgs false
set_option linter.unusedVariables false
namespace Go.Proofs.YtdbpandamnkpdaaDoor
open Go Go.RowKit

section
variable {P : Program} {L : Fl} {ty ty' : TypeId} {S : World → Prop}

inductive EqF (P : Program) (xs ys : List Value) : List Field → List Bool → Prop
  | nil : EqF P xs ys [] []
  | cons {f : Field} {fs a b r rs} (hn : f.name ≠ "_") (hag : ∀ w, (isAgg f.type).run P w = .ok false w) (ha : xs[f.offset]? = some a) (hb : ys[f.offset]? = some b)
      (he : ∀ n w, (Op.equalIn (n + 1) f.type a b).run P w = .ok r w) (hr : EqF P xs ys fs rs) : EqF P xs ys (f :: fs) (r :: rs)

theorem run_part1 {t : TypeId} {xs : List Value} {o : Nat} {a : Value} {w : World} (hag : ∀ w, (isAgg t).run P w = .ok false w) (ha : xs[o]? = some a) : (part t xs.toArray o).run P w = .ok a w := by
  simp [part, hag, ha]

theorem run_eqF {xs ys : List Value} {fs rs} (h : EqF P xs ys fs rs) (d : Nat) (w : World) : (Op.eqFields (d + 1) xs.toArray ys.toArray fs).run P w = .ok (rs.all id) w := by
  induction h with
  | nil => simp [Op.eqFields]
  | cons hn hag ha hb he hr ih =>
    rename_i f fs a b r rs
    simp only [Op.eqFields, hn, ne_eq, not_false_eq_true, if_true, Sem.run_bind, run_part1 hag ha, run_part1 hag hb, he, Result.andThen_ok, List.all_cons, id]
    cases r
    · simp
    · simpa using ih

theorem eqStruct {t : TypeId} {fs : Array Field} {xs ys : List Value} {rs w} (hu : P.underlying t = some (.struct fs)) (hp : P.stoodInHeld t = false) (h : EqF P xs ys fs.toList rs) (d : Nat) :
    (Op.equalIn (d + 2) t (.agg xs.toArray) (.agg ys.toArray)).run P w = .ok (rs.all id) w := by
  have hf : P.fieldsOf t = fs := by simp [Program.fieldsOf, hu]
  rw [run_equalIn_struct w (d + 1) t _ _ (by rw [hf]; exact hu) hp, hf]
  exact run_eqF h d w

theorem EvP.eqStruct {x y : Operand} {t : TypeId} {fs : Array Field} {xs ys : List Value} {rs r} (hx : ev L x = some (.agg xs.toArray)) (hy : ev L y = some (.agg ys.toArray)) (hu : P.underlying t = some (.struct fs)) (hp : P.stoodInHeld t = false)
    (hm : P.eqGuardType P.depth t = false) (h : EqF P xs ys fs.toList rs) (hr : rs.all id = r) : EvP P (.binOp .eql t x y ty') ty L (.bool r) :=
  EvP.eql hx hy (fun w => run_eqGuard_agg w .eql t x y _ _ hm) fun w => by rw [run_eql_struct, YtdbpandamnkpdaaDoor.eqStruct hu hp h 9998, Result.andThen_ok, hr]
theorem EvP.neStruct {x y : Operand} {t : TypeId} {fs : Array Field} {xs ys : List Value} {rs r} (hx : ev L x = some (.agg xs.toArray)) (hy : ev L y = some (.agg ys.toArray)) (hu : P.underlying t = some (.struct fs)) (hp : P.stoodInHeld t = false)
    (hm : P.eqGuardType P.depth t = false) (h : EqF P xs ys fs.toList rs) (hr : rs.all id = r) : EvP P (.binOp .neq t x y ty') ty L (.bool (!r)) :=
  EvP.neq hx hy (fun w => run_eqGuard_agg w .neq t x y _ _ hm) fun w => by rw [run_neq_struct, YtdbpandamnkpdaaDoor.eqStruct hu hp h 9998, Result.andThen_ok, hr]

theorem eqIntIn {t : TypeId} {q k : IntKind} {a b : Int} (hu : ∀ w, (underlying t).run P w = .ok (.int q) w) (n : Nat) (w : World) : (Op.equalIn (n + 1) t (.int k a) (.int k b)).run P w = .ok (decide (a = b)) w := by
  unfold Op.equalIn
  rw [Sem.run_bind, hu, Result.andThen_ok]
  by_cases h : a = b <;> simp [h]
theorem eqStrIn {t : TypeId} {a b : ByteArray} (hu : ∀ w, (underlying t).run P w = .ok .string w) (n : Nat) (w : World) : (Op.equalIn (n + 1) t (.string a) (.string b)).run P w = .ok (decide (a = b)) w := by
  unfold Op.equalIn
  rw [Sem.run_bind, hu, Result.andThen_ok]
  simp [ba_beq]
theorem eqBoolIn {t : TypeId} {a b : Bool} (hu : ∀ w, (underlying t).run P w = .ok .bool w) (n : Nat) (w : World) : (Op.equalIn (n + 1) t (.bool a) (.bool b)).run P w = .ok (decide (a = b)) w := by
  unfold Op.equalIn
  rw [Sem.run_bind, hu, Result.andThen_ok]
  by_cases h : a = b <;> simp [h]

/-- A key of two numbers. -/
def kP (p : Int × Int) : Value := .agg [.int .i64 p.1, .int .i64 p.2].toArray
theorem KL.pair {kt τ : TypeId} {f1 f2 : Field} {q : IntKind} (hu : P.underlying kt = some (.struct #[f1, f2])) (hp : P.stoodInHeld kt = false) (h1 : f1.name ≠ "_" ∧ f1.type = τ ∧ f1.offset = 0) (h2 : f2.name ≠ "_" ∧ f2.type = τ ∧ f2.offset = 1)
    (ht : ∀ w, (underlying τ).run P w = .ok (.int q) w) (hag : ∀ w, (isAgg τ).run P w = .ok false w) : KL P kt kP := by
  have hru : ∀ w, (underlying kt).run P w = .ok (.struct #[f1, f2]) w := run_underlying hu
  refine ⟨?_, ?_, ?_⟩
  · intro b k w
    have hc : ∀ n (v : Int) w, (Instr.checkKey b (n + 1) τ (.int .i64 v)).run P w = .ok () w := fun n v w => by
      unfold Instr.checkKey
      rw [Sem.run_bind, ht]
      rfl
    have hp1 : ∀ w, (part τ #[Value.int .i64 k.1, .int .i64 k.2] 0).run P w = .ok (.int .i64 k.1) w := fun w => run_part1 (xs := [.int .i64 k.1, .int .i64 k.2]) hag rfl
    have hp2 : ∀ w, (part τ #[Value.int .i64 k.1, .int .i64 k.2] 1).run P w = .ok (.int .i64 k.2) w := fun w => run_part1 (xs := [.int .i64 k.1, .int .i64 k.2]) hag rfl
    unfold Instr.checkKey
    rw [Sem.run_bind, hru, Result.andThen_ok]
    simp only [kP]
    rw [← Array.forIn_toList]
    simp only [List.forIn_cons, h1.1, h2.1, ne_eq, not_false_eq_true, if_true, h1.2.1, h1.2.2, h2.2.1, h2.2.2, Sem.run_bind, hp1, hp2, hc, Result.andThen_ok, List.forIn_nil, Sem.run_pure]
  · intro k es w
    rw [run_findKey_eq w (by rw [hu])]
    have : ∀ es (i : Nat), (Instr.findAsking kt (kP k) (es.map (mkE kP)) i).run P w = .ok (place k es i) w := by
      intro es
      induction es with
      | nil => intro i; rfl
      | cons e es ih =>
        intro i
        have he : (Op.equal kt (kP k) (kP e.1)).run P w = .ok (decide (k = e.1)) w := by
          have := YtdbpandamnkpdaaDoor.eqStruct (w := w) (P := P) (xs := [.int .i64 k.1, .int .i64 k.2]) (ys := [.int .i64 e.1.1, .int .i64 e.1.2]) hu hp
            (.cons h1.1 (by rw [h1.2.1]; exact hag) (by rw [h1.2.2]; rfl) (by rw [h1.2.2]; rfl) (by rw [h1.2.1]; exact eqIntIn ht) (.cons h2.1 (by rw [h2.2.1]; exact hag) (by rw [h2.2.2]; rfl) (by rw [h2.2.2]; rfl) (by rw [h2.2.1]; exact eqIntIn ht) .nil)) 9998
          have e2 : ([decide (k.1 = e.1.1), decide (k.2 = e.1.2)].all id) = decide (k = e.1) := by
            rw [Bool.eq_iff_iff]
            simp [Prod.ext_iff]
          rw [← e2]; exact this
        simp only [List.map_cons, Instr.findAsking, mkE, Sem.run_bind, he, Result.andThen_ok]
        unfold place
        by_cases hk : k = e.1
        · simp [hk]
        · simp only [hk, decide_false, Bool.false_eq_true, if_false]
          exact ih (i + 1)
    exact this es 0
  · intro k
    simp [kP, Instr.sameBits]

theorem EvP.min {x y : Operand} {q : IntKind} {a b : Int} {ats} (hx : ev L x = some (.int q a)) (hy : ev L y = some (.int q b)) : EvP P (.call { callee := .builtin .min, args := #[x, y], argTypes := ats }) ty L (.int q (Min.min a b)) := fun ρ hk w _ _ _ _ => by
  have e : (if b < a then b else a) = Min.min a b := by
    by_cases h : b < a
    · rw [if_pos h, Int.min_eq_right (by omega)]
    · rw [if_neg h, Int.min_eq_left (by omega)]
  simp [execOp, resolve, invoke, builtin, hk _ _ hx, hk _ _ hy, Builtin.min_, Builtin.min2, e]
theorem EvP.max {x y : Operand} {q : IntKind} {a b : Int} {ats} (hx : ev L x = some (.int q a)) (hy : ev L y = some (.int q b)) : EvP P (.call { callee := .builtin .max, args := #[x, y], argTypes := ats }) ty L (.int q (Max.max a b)) := fun ρ hk w _ _ _ _ => by
  have e : (if a < b then b else a) = Max.max a b := by
    by_cases h : a < b
    · rw [if_pos h, Int.max_eq_right (by omega)]
    · rw [if_neg h, Int.max_eq_left (by omega)]
  simp [execOp, resolve, invoke, builtin, hk _ _ hx, hk _ _ hy, Builtin.max_, Builtin.max2, e]
end
end Go.Proofs.YtdbpandamnkpdaaDoor
