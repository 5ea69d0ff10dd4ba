/-
  What the rows of this seat share: how a script comes in.
-/
import Derived.Test.YtnmljhhbabjlcaaRows
import Derived.Test.YtnmljhhbabjlcaaLm
import Derived.Test.YtnmljhhbabjlcaaBs
set_option linter.unusedVariables false
set_option maxRecDepth 100000
namespace Go.Proofs.Ytnmljhhbabjlcaa
open Go Go.ChangeShapes Go.WideShapes Go.ChangeAt Go.RowKit

theorem own_ : ownKnob Try.prog.godebug = none := by kernel_rfl
theorem laid_ : laidOutB Try.prog = true := by kernel_rfl
theorem one3 : Try.prog.cellsOf 3 = 1 := by kernel_rfl
theorem one2 : Try.prog.cellsOf 2 = 1 := by kernel_rfl
theorem four23 : Try.prog.cellsOf 23 = 4 := by kernel_rfl
theorem bytes23 : Try.prog.bytesOf 23 = 32 := by kernel_rfl

set_option maxRecDepth 100000 in
theorem op_cells {H : Type} {enc : TypeId × Value → H} {W : World} {base : Nat} {sp : Nat → Bool} {held : Bool} {n : Nat} {cs : List Value} {x : DataW H × List MemPlace} (h : DataW.trod enc Try.prog W base sp held n 23 cs = some x) : ∃ o : LOp, cs = o.enc := by
  obtain ⟨hl, hf⟩ := trod_cells Try.underlying23 h
  rw [four23] at hl
  match cs, hl with
  | [c0, c1, c2, c3], _ =>
    obtain ⟨n0, y0, t0⟩ := hf 0 _ rfl
    obtain ⟨n1, y1, t1⟩ := hf 1 _ rfl
    obtain ⟨n2, y2, t2⟩ := hf 2 _ rfl
    obtain ⟨n3, y3, t3⟩ := hf 3 _ rfl
    obtain ⟨k0, e0, _, _⟩ := DataW.trod_int Try.underlying3 t0
    obtain ⟨k1, e1, _, _⟩ := DataW.trod_int Try.underlying2 t1
    obtain ⟨k2, e2, _, _⟩ := DataW.trod_int Try.underlying2 t2
    obtain ⟨k3, e3, _, _⟩ := DataW.trod_int Try.underlying2 t3
    simp [one3, one2] at e0 e1 e2 e3
    exact ⟨⟨k0, k1, k2, k3⟩, by rw [e0, e1, e2, e3]; rfl⟩

/-- A call as it comes in. -/
theorem open_op {H : Type} {enc : TypeId × Value → H} {W : World} {base : Nat} {sp : Nat → Bool} {held : Bool} {r : Reach} {b0 : Nat} {v : Value} {d : DataW H} {ps : List MemPlace} (hval : Value.okWide Try.prog W r b0 23 v)
    (hd : DataW.Trod enc Try.prog W base sp held 23 v d ps) : ∃ o : LOp, v = o.v := by
  obtain ⟨cs, rfl, hcs⟩ := okWide_struct Try.underlying23 hval
  obtain ⟨fuel, hf⟩ := hd
  obtain ⟨o, ho⟩ := op_cells hf
  have : cs = o.enc.toArray := by
    have h1 : cs.toList = o.enc := ho
    rw [← h1]
  exact ⟨o, by rw [this]; rfl⟩

/-- A script as it comes in; and how long it may be. -/
theorem open_script {H : Type} {enc : TypeId × Value → H} {W : World} {sp : Nat → Bool} {held : Bool} {r : Reach} {b0 : Nat} {v : Value} {d : DataW H} {ps : List MemPlace} {ts : List TypeId} {ds : List (DataW H)} {j : Nat}
    (hval : Value.okWide Try.prog W r b0 38 v) (hd : DataW.Trod enc Try.prog W 0 sp held 38 v d ps) (hsz : (DataW.weightsEach Try.prog ts ds).all (· ≤ reachBytes) = true) (ht : ts[j]? = some 38) (hj : ds[j]? = some d) :
    ∃ ops : List LOp, Els (fun w => w = W) v 4 LOp.enc 23 ops ∧ ops.length < 1099511627776000 := by
  obtain ⟨a, len, cap, rfl⟩ := okWide_slice Try.underlying38 hval
  obtain ⟨ops, he, hlen⟩ := open_rows (T := 23) (enc := LOp.enc) Try.underlying38 four23 (by decide) (fun _ => rfl) (fun n cs x h => op_cells h) ⟨a, len, cap, rfl⟩ hd
  refine ⟨ops, he, ?_⟩
  rcases hlen with rfl | ⟨el, spr, rfl, hl⟩
  · simp
  · have := sized_slice hsz ht hj Try.underlying38
    rw [bytes23] at this
    unfold reachBytes at this
    omega
end Go.Proofs.Ytnmljhhbabjlcaa
