/-
  LinksEnd holds: behind an end no bond of that pid is there; asked again none is told: true at every script and every pid; no condition.
-/
import Derived.Test.YtnmljhhbabjlcaaLr
import Derived.Test.YtnmljhhbabjlcaaLo
set_option linter.unusedVariables false
namespace Go.Proofs.Ytnmljhhbabjlcaa
open Go Go.ChangeShapes Go.WideShapes Go.ChangeAt Go.RowKit

set_option maxRecDepth 100000 in
theorem end_lifted (os : Os) (started : os.Started) (H : Type) (enc : TypeId × Value → H) :
    ReturnsInHanded {} Try.checked os 4 .any (Rows.linksEndSpec.pre6 enc Try.prog Try.f4 Rows.linksEndRow.domain false) (Rows.linksEndSpec.post enc Try.prog Try.f4 false true false false) := by
  refine returnsInHanded_of_change_sized (C := Try.checked) own_ started (by kernel_rfl) Try.func4
    (ChangeSpec.witness6 (enc := enc) (C := Try.checked) false ⟨#[], #[.slice none 0 0, .int .i64 0], []⟩ 8 (by kernel_rfl) (by kernel_rfl) (by kernel_rfl) (by kernel_rfl)) ?_
  intro W base args ds gs before hval0 hW hcnd hsz0 _
  have hval : ∀ (j : Nat) t v, Try.f4.params[j]? = some t → args[j]? = some v → Value.okWide Try.prog W .any base t v := hval0
  have hW' : DataW.Whole enc Try.prog Try.f4.params.toList [] false W args.toList ds gs before := hW
  obtain ⟨p, q, hA0, hV, rfl, hfz, hnd⟩ := hW
  have hA : DataW.TrodAll enc Try.prog W 0 (fun _ => true) true Try.f4.params.toList args.toList ds p := hA0
  rw [Try.params4] at hA hval
  obtain ⟨v0, v1, d0, d1, p0, p1, rfl, rfl, rfl, h0, h1⟩ := trodAll_two hA
  obtain ⟨rfl, rfl⟩ := trodVars_none hV
  obtain ⟨ops, he, hlen⟩ := open_script (hval 0 38 v0 rfl rfl) h0 hsz0 (j := 0) rfl rfl
  obtain ⟨n, rfl, _, _, _⟩ := open_int Try.underlying2 (hval 1 2 v1 rfl rfl) h1
  refine (end_walk he (by omega) n (St.refl W)).mono ?_
  rintro e W' ⟨v, Hq, rfl, ⟨rfl, rfl⟩, hs⟩
  exact ⟨_, rfl, post_true laid_ (by kernel_rfl) rfl rfl Try.underlying4 rfl rfl rfl hW' hs.base⟩

theorem linksEnd_holds : Rows.LinksEndSaid :=
  OpenClaim.holds_of_wide 4 Try.f4 rfl rfl rfl rfl rfl rfl rfl ⟨rfl, rfl, rfl, rfl, rfl⟩ rfl rfl rfl rfl rfl (by kernel_rfl) Try.func4 (by kernel_rfl)
    (of_decide_eq_true (by kernel_rfl)) (by unfold Func.isWrapper; rw [if_neg (by decide +kernel)]; exact ⟨rfl, rfl⟩)
    (fun os started H enc _ => end_lifted os started H enc)

#print axioms linksEnd_holds
end Go.Proofs.Ytnmljhhbabjlcaa
