/-
  LinksFull holds: what there is no room for is refused, and changes nothing: true at every number and every call; no condition.
-/
import Derived.Test.YtnmljhhbabjlcaaRows
import Derived.Test.YtnmljhhbabjlcaaLn
import Derived.Test.YtnmljhhbabjlcaaBr
set_option linter.unusedVariables false
namespace Go.Proofs.Ytnmljhhbabjlcaa
open Go Go.ChangeShapes Go.WideShapes Go.ChangeAt Go.RowKit

theorem own_ : ownKnob Try.prog.godebug = none := by kernel_rfl
theorem laid_ : laidOutB Try.prog = true := by kernel_rfl
theorem one3 : Try.prog.cellsOf 3 = 1 := by kernel_rfl
theorem one2 : Try.prog.cellsOf 2 = 1 := by kernel_rfl
theorem four23 : Try.prog.cellsOf 23 = 4 := by kernel_rfl

set_option maxRecDepth 100000 in
/-- A call as it comes in. -/
theorem open_op {H : Type} {enc : TypeId × Value → H} {W : World} {base : Nat} {sp : Nat → Bool} {held : Bool} {r : Reach} {b0 : Nat} {v : Value} {d : DataW H} {ps : List MemPlace} (hval : Value.okWide Try.prog W r b0 23 v)
    (hd : DataW.Trod enc Try.prog W base sp held 23 v d ps) : ∃ o : LOp, v = o.v := by
  obtain ⟨cs, rfl, hcs⟩ := okWide_struct Try.underlying23 hval
  obtain ⟨c0, c1, c2, c3, rfl⟩ := arr4 (hcs.trans four23)
  have hf := trod_fields Try.underlying23 hd
  obtain ⟨n0, y0, t0⟩ := hf 0 _ rfl
  obtain ⟨n1, y1, t1⟩ := hf 1 _ rfl
  obtain ⟨n2, y2, t2⟩ := hf 2 _ rfl
  obtain ⟨n3, y3, t3⟩ := hf 3 _ rfl
  obtain ⟨k0, e0, _, _⟩ := DataW.trod_int Try.underlying3 t0
  obtain ⟨k1, e1, _, _⟩ := DataW.trod_int Try.underlying2 t1
  obtain ⟨k2, e2, _, _⟩ := DataW.trod_int Try.underlying2 t2
  obtain ⟨k3, e3, _, _⟩ := DataW.trod_int Try.underlying2 t3
  simp [one3, one2, Value.cells] at e0 e1 e2 e3
  exact ⟨⟨k0, k1, k2, k3⟩, by rw [e0, e1, e2, e3]; rfl⟩

set_option maxRecDepth 100000 in
theorem full_lifted (os : Os) (started : os.Started) (H : Type) (enc : TypeId × Value → H) :
    ReturnsInHanded {} Try.checked os 3 .any (Rows.linksFullSpec.pre6 enc Try.prog Try.f3 Rows.linksFullRow.domain false) (Rows.linksFullSpec.post enc Try.prog Try.f3 false true false false) := by
  refine returnsInHanded_of_change (C := Try.checked) own_ started (by kernel_rfl) Try.func3
    (ChangeSpec.witness6 (enc := enc) (C := Try.checked) false ⟨#[], #[.int .i64 0, .agg #[.int .i64 0, .int .i64 0, .int .i64 0, .int .i64 0]], []⟩ 8 (by kernel_rfl) (by kernel_rfl) (by kernel_rfl) (by kernel_rfl)) ?_
  intro W base args ds gs before hval0 hW hcnd _
  have hval : ∀ (j : Nat) t v, Try.f3.params[j]? = some t → args[j]? = some v → Value.okWide Try.prog W .any base t v := hval0
  have hW' : DataW.Whole enc Try.prog Try.f3.params.toList [] false W args.toList ds gs before := hW
  obtain ⟨p, q, hA0, hV, rfl, hfz, hnd⟩ := hW
  have hA : DataW.TrodAll enc Try.prog W 0 (fun _ => true) true Try.f3.params.toList args.toList ds p := hA0
  rw [Try.params3] at hA hval
  obtain ⟨v0, v1, d0, d1, p0, p1, rfl, rfl, rfl, h0, h1⟩ := trodAll_two hA
  obtain ⟨rfl, rfl⟩ := trodVars_none hV
  obtain ⟨n, rfl, _, _, _⟩ := open_int Try.underlying3 (hval 0 3 v0 rfl rfl) h0
  obtain ⟨o, rfl⟩ := open_op (hval 1 23 v1 rfl rfl) h1
  refine (full_walk n o (St.refl W)).mono ?_
  rintro e W' ⟨v, Hq, rfl, ⟨rfl, rfl⟩, hs⟩
  exact ⟨_, rfl, post_true laid_ (by kernel_rfl) rfl rfl Try.underlying4 rfl rfl rfl hW' hs.base⟩

theorem linksFull_holds : Rows.LinksFullSaid :=
  OpenClaim.holds_of_wide 3 Try.f3 rfl rfl rfl rfl rfl rfl rfl ⟨rfl, rfl, rfl, rfl, rfl⟩ rfl rfl rfl rfl rfl (by kernel_rfl) Try.func3 (by kernel_rfl)
    (of_decide_eq_true (by kernel_rfl)) (by unfold Func.isWrapper; rw [if_neg (by decide +kernel)]; exact ⟨rfl, rfl⟩)
    (fun os started H enc _ => full_lifted os started H enc)

#print axioms linksFull_holds
end Go.Proofs.Ytnmljhhbabjlcaa
