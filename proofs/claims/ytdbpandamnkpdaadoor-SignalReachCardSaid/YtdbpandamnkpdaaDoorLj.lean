/-
  Walks of the law's helpers.
-/
import Derived.Test.YtdbpandamnkpdaaDoorLi
set_option linter.unusedSimpArgs false
set_option linter.unusedVariables false
namespace Go.Proofs.YtdbpandamnkpdaaDoor
open Go Go.RowKit

theorem neSame {Lf : Fl} {t u : Nat} {ty ty' : TypeId} (x : Bond) (hx : ev Lf (.tmp t) = some x.v := by rfl) (hb : ev Lf (.tmp u) = some x.v := by rfl) : EvP Tryd.prog (.binOp .neq 78 (.tmp t) (.tmp u) ty') ty Lf (.bool false) :=
  EvP.neStruct (xs := x.enc) (ys := x.enc) hx hb Tryd.underlying78 (by kernel_rfl) Tryd.eqGuardType78
    (.cons (by decide) Tryd.isAgg2 rfl rfl (eqIntIn Tryd.runUnderlying2) (.cons (by decide) Tryd.isAgg2 rfl rfl (eqIntIn Tryd.runUnderlying2) (.cons (by decide) Tryd.isAgg2 rfl rfl (eqIntIn Tryd.runUnderlying2) .nil))) (r := true) (by simp)

theorem new_spec {w0 w : World} {R : List Chunk} (hst : St w0 w R) : Calls Tryd.prog 36 #[] w (Post1 w0 R fun u C => ∃ g, u = .pointer (some ⟨g, 0, none⟩) ∧ IsG 0 [] g C) := by
  refine calls_of (args := []) Tryd.func36 rfl Tryd.ntmps36 hst ?_
  refine TC.seq ?_
  refine TC.region ?_
  refine TL.p (EvP.assign rfl) ?_
  refine TL.nil ?_
  refine TX.thenN rfl rfl ?_
  refine TC.seq ?_
  refine TC.region ?_
  refine TL.makeMap kI (fun m1 => ?_)
  refine TL.makeMap kP (fun m2 => ?_)
  refine TL.makeMap kI (fun m3 => ?_)
  refine TL.p (EvP.buildS (is := [0, 2, 3]) (xs := [_, _, _]) rfl Tryd.runUnderlying91 Tryd.zeroValue91 rfl (.cons Tryd.sizeOf87 (.cons Tryd.sizeOf2 (.cons Tryd.sizeOf88 (.cons Tryd.sizeOf89 .nil)))) rfl rfl rfl) ?_
  refine TL.box rfl rfl (fun b5 => ?_)
  refine TL.p (EvP.assign rfl) ?_
  refine TL.nil ?_
  refine TX.thenN rfl rfl ?_
  refine TC.ret ?_
  refine TX.done rfl (Res.one rfl rfl) (fun w hs => Post1.mk (C := [(b5, .cells [.map (some m1), .int .i64 0, .map (some m2), .map (some m3)].toArray 91 (0, 0)), (m1, mapObj kI [] 0), (m2, mapObj kP [] 0), (m3, mapObj kI [] 0)]) hs ⟨b5, rfl, m1, m2, m3, 0, [], 0, [], 0, [], 0, [], rfl, .new, rfl, by omega⟩ (Le.trans Le.close4 (by repeat (first | exact Le.refl _ | exact Le.nil _ | refine Le.hit ?_ | refine Le.hit1 ?_ | refine Le.hit2 ?_ | refine Le.hit3 ?_ | refine Le.hit4 ?_ | refine Le.hit5 ?_ | refine Le.hit6 ?_ | refine Le.hit7 ?_ | refine Le.hit8 ?_ | refine Le.hit9 ?_ | refine Le.hit10 ?_ | refine Le.skip ?_))))

end Go.Proofs.YtdbpandamnkpdaaDoor
