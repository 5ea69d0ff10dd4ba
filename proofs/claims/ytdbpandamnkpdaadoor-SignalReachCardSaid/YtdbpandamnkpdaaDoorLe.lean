/-
  The iterators over the bonds.
-/
import Derived.Test.YtdbpandamnkpdaaDoorLd
set_option linter.unusedSimpArgs false
set_option linter.unusedVariables false
namespace Go.Proofs.YtdbpandamnkpdaaDoor
open Go Go.RowKit

/-- How many of the first i bonds pass. -/
def cnt (p : Bond → Bool) (S : List (Int × Bond)) (i : Nat) : Nat := (((S.take i).map (·.2)).filter p).length
theorem take_snoc {α : Type} {l : List α} {i : Nat} {x : α} (h : l[i]? = some x) : l.take (i + 1) = l.take i ++ [x] := by rw [List.take_add_one, h]; rfl
section
variable {p : Bond → Bool} {S : List (Int × Bond)} {i j : Nat} {s : Int × Bond}
theorem cnt_yes (hx : S[i]? = some s) (hp : p s.2 = true) : cnt p S (i + 1) = cnt p S i + 1 := by simp [cnt, take_snoc hx, hp]
theorem cnt_no (hx : S[i]? = some s) (hp : p s.2 = false) : cnt p S (i + 1) = cnt p S i := by simp [cnt, take_snoc hx, hp]
theorem cnt_at (hx : S[i]? = some s) (hp : p s.2 = true) (hj : j = cnt p S i) : (((S.map (·.2)).filter p).map fun b => [b.v])[j]? = some [s.2.v] := by
  have hlt := (List.getElem?_eq_some_iff.1 hx).1
  have e : S = S.take i ++ s :: S.drop (i + 1) := by
    rw [← (List.getElem?_eq_some_iff.1 hx).2, ← List.drop_eq_getElem_cons hlt, List.take_append_drop]
  rw [e, List.map_append, List.filter_append, List.map_append, hj]
  rw [List.getElem?_append_right (by simp [cnt])]
  simp [cnt, hp]
theorem cnt_end (hi : i = S.length) (hj : j = cnt p S i) : (((S.map (·.2)).filter p).map fun b => [b.v]).length = j := by
  subst hi; subst hj; simp [cnt]
end

end Go.Proofs.YtdbpandamnkpdaaDoor
