/-
  What single operations answer: numbers, tests, fields, cells.
-/
import Derived.Test.YtdbpandamnkpdaaDoorBb
import Derived.WideShapes
set_option linter.unusedSimpArgs false
set_option linter.unusedVariables false
namespace Go.Proofs.YtdbpandamnkpdaaDoor
open Go Go.RowKit

section
variable {P : Program} {L : Fl} {ty : TypeId}

theorem EvP.move {x v} (h : ev L x = some v) : EvP P (.move x) ty L v := fun ρ hk w _ _ _ _ => by simp [execOp, hk x v h]
theorem EvP.assign {x v} (h : ev L x = some v) : EvP P (.assign x) ty L v := fun ρ hk w _ _ _ _ => by simp [execOp, hk x v h]
theorem EvP.pickT {x y z v} (h : ev L x = some (.bool true)) (h' : ev L y = some v) : EvP P (.pick x y z) ty L v := fun ρ hk w _ _ _ _ => by
  simp [execOp, hk _ _ h, hk _ _ h', asBool]
theorem EvP.pickF {x y z v} (h : ev L x = some (.bool false)) (h' : ev L z = some v) : EvP P (.pick x y z) ty L v := fun ρ hk w _ _ _ _ => by
  simp [execOp, hk _ _ h, hk _ _ h', asBool]

/-! ### whole numbers -/
theorem guardInt {op t x y k m k' n} (w : World) : (eqGuard op t x y (.int k m) (.int k' n)).run P w = .ok () w := by
  unfold eqGuard
  cases op <;> rfl

section ints
variable {t ty' : TypeId} {x y : Operand} {k : IntKind} {m n : Int}
theorem EvP.addW (hx : ev L x = some (.int k m)) (hy : ev L y = some (.int k n)) : EvP P (.binOp .add t x y ty') ty L (.int k (k.wrap (m + n))) := fun ρ hk w _ _ _ _ => by
  simp [execOp, hk _ _ hx, hk _ _ hy, guardInt, binOp, Op.intArith]
theorem EvP.subW (hx : ev L x = some (.int k m)) (hy : ev L y = some (.int k n)) : EvP P (.binOp .sub t x y ty') ty L (.int k (k.wrap (m - n))) := fun ρ hk w _ _ _ _ => by
  simp [execOp, hk _ _ hx, hk _ _ hy, guardInt, binOp, Op.intArith]
theorem EvP.mulW (hx : ev L x = some (.int k m)) (hy : ev L y = some (.int k n)) : EvP P (.binOp .mul t x y ty') ty L (.int k (k.wrap (m * n))) := fun ρ hk w _ _ _ _ => by
  simp [execOp, hk _ _ hx, hk _ _ hy, guardInt, binOp, Op.intArith]
theorem EvP.add (hx : ev L x = some (.int .i64 m)) (hy : ev L y = some (.int .i64 n)) (h : -9223372036854775808 ≤ m + n ∧ m + n ≤ 9223372036854775807) :
    EvP P (.binOp .add t x y ty') ty L (.int .i64 (m + n)) := by
  have := EvP.addW (P := P) (t := t) (ty := ty) (ty' := ty') hx hy
  rwa [IntWalk.i64_in _ (by omega)] at this
theorem EvP.sub (hx : ev L x = some (.int .i64 m)) (hy : ev L y = some (.int .i64 n)) (h : -9223372036854775808 ≤ m - n ∧ m - n ≤ 9223372036854775807) :
    EvP P (.binOp .sub t x y ty') ty L (.int .i64 (m - n)) := by
  have := EvP.subW (P := P) (t := t) (ty := ty) (ty' := ty') hx hy
  rwa [IntWalk.i64_in _ (by omega)] at this
theorem EvP.mul (hx : ev L x = some (.int .i64 m)) (hy : ev L y = some (.int .i64 n)) (h : -9223372036854775808 ≤ m * n ∧ m * n ≤ 9223372036854775807) :
    EvP P (.binOp .mul t x y ty') ty L (.int .i64 (m * n)) := by
  have := EvP.mulW (P := P) (t := t) (ty := ty) (ty' := ty') hx hy
  rwa [IntWalk.i64_in _ (by omega)] at this
theorem EvP.rem (hx : ev L x = some (.int k m)) (hy : ev L y = some (.int k n)) (h : n ≠ 0) : EvP P (.binOp .rem t x y ty') ty L (.int k (m.tmod n)) := fun ρ hk w _ _ _ _ => by
  simp [execOp, hk _ _ hx, hk _ _ hy, guardInt, binOp, Op.intDiv, h]
theorem EvP.quo (hx : ev L x = some (.int k m)) (hy : ev L y = some (.int k n)) (h : n ≠ 0) : EvP P (.binOp .quo t x y ty') ty L (.int k (k.wrap (m.tdiv n))) := fun ρ hk w _ _ _ _ => by
  simp [execOp, hk _ _ hx, hk _ _ hy, guardInt, binOp, Op.intDiv, h]
theorem EvP.lt (hx : ev L x = some (.int k m)) (hy : ev L y = some (.int k n)) : EvP P (.binOp .lss t x y ty') ty L (.bool (decide (m < n))) := fun ρ hk w _ _ _ _ => by
  simp [execOp, hk _ _ hx, hk _ _ hy, guardInt, binOp, Op.intCmp]
theorem EvP.le (hx : ev L x = some (.int k m)) (hy : ev L y = some (.int k n)) : EvP P (.binOp .leq t x y ty') ty L (.bool (decide (m ≤ n))) := fun ρ hk w _ _ _ _ => by
  simp [execOp, hk _ _ hx, hk _ _ hy, guardInt, binOp, Op.intCmp]
theorem EvP.gt (hx : ev L x = some (.int k m)) (hy : ev L y = some (.int k n)) : EvP P (.binOp .gtr t x y ty') ty L (.bool (decide (n < m))) := fun ρ hk w _ _ _ _ => by
  simp [execOp, hk _ _ hx, hk _ _ hy, guardInt, binOp, Op.intCmp]
theorem EvP.ge (hx : ev L x = some (.int k m)) (hy : ev L y = some (.int k n)) : EvP P (.binOp .geq t x y ty') ty L (.bool (decide (n ≤ m))) := fun ρ hk w _ _ _ _ => by
  simp [execOp, hk _ _ hx, hk _ _ hy, guardInt, binOp, Op.intCmp]
theorem EvP.eq (hx : ev L x = some (.int k m)) (hy : ev L y = some (.int k n)) : EvP P (.binOp .eql t x y ty') ty L (.bool (decide (m = n))) := fun ρ hk w _ _ _ _ => by
  simp only [execOp, hk _ _ hx, hk _ _ hy, guardInt, binOp, Op.intCmp, Sem.run_bind, Sem.run_pure, Result.andThen_ok, ite_true, ne_eq, not_true_eq_false, if_false]
  by_cases h : m = n <;> simp [h]
theorem EvP.ne (hx : ev L x = some (.int k m)) (hy : ev L y = some (.int k n)) : EvP P (.binOp .neq t x y ty') ty L (.bool (decide (m ≠ n))) := fun ρ hk w _ _ _ _ => by
  simp only [execOp, hk _ _ hx, hk _ _ hy, guardInt, binOp, Op.intCmp, Sem.run_bind, Sem.run_pure, Result.andThen_ok, ite_true, ne_eq, not_true_eq_false, if_false]
  by_cases h : m = n <;> simp [h, bne]
theorem EvP.conv (hx : ev L x = some (.int k m)) {s d : TypeId} {sd : TypeDesc} {k' : IntKind} (hs : ∀ w, (underlying s).run P w = .ok sd w) (hd : ∀ w, (underlying d).run P w = .ok (.int k') w) :
    EvP P (.convert s d x) ty L (.int k' (k'.wrap m)) := fun ρ hk w _ _ _ _ => by
  simp [execOp, hk _ _ hx, convert, hs, hd, Conv.intToInt]
theorem EvP.conv64 (hx : ev L x = some (.int k m)) (h : -9223372036854775808 ≤ m ∧ m ≤ 9223372036854775807) {s d : TypeId} {sd : TypeDesc} (hs : ∀ w, (underlying s).run P w = .ok sd w) (hd : ∀ w, (underlying d).run P w = .ok (.int .i64) w) :
    EvP P (.convert s d x) ty L (.int .i64 m) := by
  have := EvP.conv (P := P) (ty := ty) hx hs hd
  rwa [IntWalk.i64_in _ (by omega)] at this
end ints

theorem EvP.not {x b t} (h : ev L x = some (.bool b)) : EvP P (.unOp .not t x) ty L (.bool (!b)) := fun ρ hk w _ _ _ _ => by
  simp [execOp, hk _ _ h, Op.unary]
theorem EvP.neg {x t m} (h : ev L x = some (.int .i64 m)) (hr : -9223372036854775808 ≤ -m ∧ -m ≤ 9223372036854775807) : EvP P (.unOp .neg t x) ty L (.int .i64 (-m)) := fun ρ hk w _ _ _ _ => by
  simp [execOp, hk _ _ h, Op.unary, Op.intArith]
  exact IntWalk.i64_in _ (by omega)

/-- '==' at whatever type, once it is known what it answers. -/
theorem EvP.eql {x y t ty' a b r} (hx : ev L x = some a) (hy : ev L y = some b) (hg : ∀ w, (eqGuard .eql t x y a b).run P w = .ok () w)
    (hq : ∀ w, (binOp .eql t a b).run P w = .ok (.bool r) w) : EvP P (.binOp .eql t x y ty') ty L (.bool r) := fun ρ hk w _ _ _ _ => by
  simp [execOp, hk _ _ hx, hk _ _ hy, hg, hq]
theorem EvP.neq {x y t ty' a b r} (hx : ev L x = some a) (hy : ev L y = some b) (hg : ∀ w, (eqGuard .neq t x y a b).run P w = .ok () w)
    (hq : ∀ w, (binOp .neq t a b).run P w = .ok (.bool r) w) : EvP P (.binOp .neq t x y ty') ty L (.bool r) := fun ρ hk w _ _ _ _ => by
  simp [execOp, hk _ _ hx, hk _ _ hy, hg, hq]

theorem equal_run {t : TypeId} {d : TypeDesc} {a b : Value} {r : Bool} {w : World} (hu : ∀ w, (underlying t).run P w = .ok d w)
    (h : ∀ n, (Op.equalIn (n + 1) t a b).run P w = .ok r w) : (Op.equal t a b).run P w = .ok r w := h 9999
theorem binEql {t : TypeId} {a b : Value} {r : Bool} {w : World} (he : binOp .eql t a b = (do pure (.bool (← Op.equal t a b)))) (h : (Op.equal t a b).run P w = .ok r w) :
    (binOp .eql t a b).run P w = .ok (.bool r) w := by
  rw [he, Sem.run_bind, h]; rfl
theorem binNeq {t : TypeId} {a b : Value} {r : Bool} {w : World} (he : binOp .neq t a b = (do pure (.bool (!(← Op.equal t a b))))) (h : (Op.equal t a b).run P w = .ok r w) :
    (binOp .neq t a b).run P w = .ok (.bool (!r)) w := by
  rw [he, Sem.run_bind, h]; rfl
theorem eqPtr {t e : TypeId} {a : Option Addr} {w : World} (hu : ∀ w, (underlying t).run P w = .ok (.pointer e) w) : (Op.equal t (.pointer a) (.pointer none)).run P w = .ok a.isNone w := by
  refine equal_run hu fun n => ?_
  unfold Op.equalIn
  rw [Sem.run_bind, hu, Result.andThen_ok]
  cases a <;> rfl
theorem eqFn {t : TypeId} {fn fs cs ps rs va} {w : World} (hu : ∀ w, (underlying t).run P w = .ok (.func ps rs va) w) : (Op.equal t (.func fn fs cs) .nilFunc).run P w = .ok false w := by
  refine equal_run hu fun n => ?_
  unfold Op.equalIn
  rw [Sem.run_bind, hu, Result.andThen_ok]
  rfl
theorem eqBl {t : TypeId} {a b : Bool} {w : World} (hu : ∀ w, (underlying t).run P w = .ok .bool w) : (Op.equal t (.bool a) (.bool b)).run P w = .ok (a == b) w := by
  refine equal_run hu fun n => ?_
  unfold Op.equalIn
  rw [Sem.run_bind, hu, Result.andThen_ok]
  rfl
theorem eqSlNil {t e : TypeId} {a : Option Addr} {l c l' c' : Nat} {w : World} (hu : ∀ w, (underlying t).run P w = .ok (.slice e) w) : (Op.equal t (.slice a l c) (.slice none l' c')).run P w = .ok a.isNone w := by
  refine equal_run hu fun n => ?_
  unfold Op.equalIn
  rw [Sem.run_bind, hu, Result.andThen_ok]
  cases a <;> rfl

section nils
variable {t ty' e : TypeId} {x y : Operand}
theorem EvP.eqPtrNil {a : Option Addr} (hu : ∀ w, (underlying t).run P w = .ok (.pointer e) w) (hx : ev L x = some (.pointer a)) (hy : ev L y = some (.pointer none)) :
    EvP P (.binOp .eql t x y ty') ty L (.bool a.isNone) := by
  refine EvP.eql hx hy (fun w => rfl) fun w => ?_
  exact binEql rfl (eqPtr hu)
theorem EvP.nePtrNil {a : Option Addr} (hu : ∀ w, (underlying t).run P w = .ok (.pointer e) w) (hx : ev L x = some (.pointer a)) (hy : ev L y = some (.pointer none)) :
    EvP P (.binOp .neq t x y ty') ty L (.bool (!a.isNone)) := by
  refine EvP.neq hx hy (fun w => rfl) fun w => ?_
  exact binNeq rfl (eqPtr hu)
theorem EvP.eqFnNil {fn fs cs ps rs va} (hu : ∀ w, (underlying t).run P w = .ok (.func ps rs va) w) (hx : ev L x = some (.func fn fs cs)) (hy : ev L y = some .nilFunc) :
    EvP P (.binOp .eql t x y ty') ty L (.bool false) := by
  refine EvP.eql hx hy (fun w => rfl) fun w => ?_
  exact binEql rfl (eqFn hu)
theorem EvP.eqBool {a b : Bool} (hu : ∀ w, (underlying t).run P w = .ok .bool w) (hx : ev L x = some (.bool a)) (hy : ev L y = some (.bool b)) :
    EvP P (.binOp .eql t x y ty') ty L (.bool (a == b)) := by
  refine EvP.eql hx hy (fun w => rfl) fun w => ?_
  exact binEql rfl (eqBl hu)
theorem EvP.neBool {a b : Bool} (hu : ∀ w, (underlying t).run P w = .ok .bool w) (hx : ev L x = some (.bool a)) (hy : ev L y = some (.bool b)) :
    EvP P (.binOp .neq t x y ty') ty L (.bool (!(a == b))) := by
  refine EvP.neq hx hy (fun w => rfl) fun w => ?_
  exact binNeq rfl (eqBl hu)
theorem EvP.eqSlNil {a : Option Addr} {l k l' k' : Nat} (hu : ∀ w, (underlying t).run P w = .ok (.slice e) w) (hx : ev L x = some (.slice a l k)) (hy : ev L y = some (.slice none l' k')) :
    EvP P (.binOp .eql t x y ty') ty L (.bool a.isNone) := by
  refine EvP.eql hx hy (fun w => rfl) fun w => ?_
  exact binEql rfl (YtdbpandamnkpdaaDoor.eqSlNil hu)
end nils

theorem bytes_eq {a b : ByteArray} : (a.toList == b.toList) = decide (a = b) := by
  rw [Bool.eq_iff_iff]
  simp only [beq_iff_eq, decide_eq_true_eq]
  constructor
  · intro h
    have h' : a.data.toList = b.data.toList := by
      rw [ByteArray.toList_eq, ByteArray.toList_eq] at h; exact h
    exact Go.WideShapes.bytes_inj h'
  · rintro rfl; rfl
end
end Go.Proofs.YtdbpandamnkpdaaDoor
