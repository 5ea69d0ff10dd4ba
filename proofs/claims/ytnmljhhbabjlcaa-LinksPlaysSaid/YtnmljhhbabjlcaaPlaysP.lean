/-
  LinksPlays holds: any calls one after another, any two pids: every answer agrees: true at every script and every two pids; no condition.
-/
import Derived.Test.YtnmljhhbabjlcaaLr
import Derived.Test.YtnmljhhbabjlcaaLy
set_option linter.unusedVariables false
namespace Go.Proofs.Ytnmljhhbabjlcaa
open Go Go.ChangeShapes Go.WideShapes Go.ChangeAt Go.RowKit

set_option maxRecDepth 100000 in
theorem plays_lifted (os : Os) (started : os.Started) (H : Type) (enc : TypeId × Value → H) :
    ReturnsInHanded {} Try.checked os 7 .any (Rows.linksPlaysSpec.pre6 enc Try.prog Try.f7 Rows.linksPlaysRow.domain false) (Rows.linksPlaysSpec.post enc Try.prog Try.f7 false true false false) := by
  refine returnsInHanded_of_change_sized (C := Try.checked) own_ started (by kernel_rfl) Try.func7
    (ChangeSpec.witness6 (enc := enc) (C := Try.checked) false ⟨#[], #[.slice none 0 0, .int .i64 0, .int .i64 0], []⟩ 8 (by kernel_rfl) (by kernel_rfl) (by kernel_rfl) (by kernel_rfl)) ?_
  intro W base args ds gs before hval0 hW hcnd hsz0 _
  have hval : ∀ (j : Nat) t v, Try.f7.params[j]? = some t → args[j]? = some v → Value.okWide Try.prog W .any base t v := hval0
  have hW' : DataW.Whole enc Try.prog Try.f7.params.toList [] false W args.toList ds gs before := hW
  obtain ⟨p, q, hA0, hV, rfl, hfz, hnd⟩ := hW
  have hA : DataW.TrodAll enc Try.prog W 0 (fun _ => true) true Try.f7.params.toList args.toList ds p := hA0
  rw [Try.params7] at hA hval
  obtain ⟨v0, v1, v2, d0, d1, d2, p0, p1, p2, rfl, rfl, rfl, h0, h1, h2⟩ := trodAll_three hA
  obtain ⟨rfl, rfl⟩ := trodVars_none hV
  obtain ⟨ops, he, hlen⟩ := open_script (hval 0 38 v0 rfl rfl) h0 hsz0 (j := 0) rfl rfl
  obtain ⟨a, rfl, _, _, _⟩ := open_int Try.underlying2 (hval 1 2 v1 rfl rfl) h1
  obtain ⟨b, rfl, _, _, _⟩ := open_int Try.underlying2 (hval 2 2 v2 rfl rfl) h2
  refine (plays_walk he (by omega) a b (St.refl W)).mono ?_
  rintro e W' ⟨v, Hq, rfl, ⟨rfl, rfl⟩, hs⟩
  exact ⟨_, rfl, post_true laid_ (by kernel_rfl) rfl rfl Try.underlying4 rfl rfl rfl hW' hs.base⟩

theorem linksPlays_holds : Rows.LinksPlaysSaid :=
  OpenClaim.holds_of_wide 7 Try.f7 rfl rfl rfl rfl rfl rfl rfl ⟨rfl, rfl, rfl, rfl, rfl⟩ rfl rfl rfl rfl rfl (by kernel_rfl) Try.func7 (by kernel_rfl)
    (of_decide_eq_true (by kernel_rfl)) (by unfold Func.isWrapper; rw [if_neg (by decide +kernel)]; exact ⟨rfl, rfl⟩)
    (fun os started H enc _ => plays_lifted os started H enc)

#print axioms linksPlays_holds
end Go.Proofs.Ytnmljhhbabjlcaa
