/-
  What the rows of this seat share: how a script comes in; the two tables that were laid.
-/
import Derived.Test.YtocohlcmkbnegaaDoorTie
import Derived.Test.YtocohlcmkbnegaaDoorCards
import Derived.Test.YtocohlcmkbnegaaDoorBs
import Derived.Test.YtocohlcmkbnegaaDoorNf
import Derived.Deep.DeepHandedRow
import Derived.Deep.DeepWitnessRowRef
import Derived.ProofKit
import Derived.SizedLaws
import Derived.Lib.LaidIn
import Derived.Lib.LaidU8T
import Derived.PinnedBridge
set_option linter.unusedVariables false
set_option maxRecDepth 100000
namespace Go.Proofs.YtocohlcmkbnegaaDoor
open Go Go.ChangeShapes Go.WideShapes Go.ChangeAt Go.RowKit Go.Lib
open Go.ChangeMaps (open_string)

theorem own_ : ownKnob Tryd.prog.godebug = none := by kernel_rfl
theorem laid_ : laidOutB Tryd.prog = true := by kernel_rfl
theorem one3 : Tryd.prog.cellsOf 3 = 1 := by kernel_rfl
theorem one2 : Tryd.prog.cellsOf 2 = 1 := by kernel_rfl
theorem one9 : Tryd.prog.cellsOf 9 = 1 := by kernel_rfl
theorem three31 : Tryd.prog.cellsOf 31 = 3 := by kernel_rfl
theorem bytes31 : Tryd.prog.bytesOf 31 = 32 := by kernel_rfl

theorem sv_of (s : ByteArray) : Value.string s = sv s.data.toList := by
  cases s; simp [sv]

theorem op_cells {H : Type} {enc : TypeId × Value → H} {W : World} {base : Nat} {sp : Nat → Bool} {held : Bool} {n : Nat} {cs : List Value} {x : DataW H × List MemPlace} (h : DataW.trod enc Tryd.prog W base sp held n 31 cs = some x) : ∃ o : NOp, cs = o.enc := by
  obtain ⟨hl, hf⟩ := trod_cells Tryd.underlying31 h
  rw [three31] at hl
  match cs, hl with
  | [c0, c1, c2], _ =>
    obtain ⟨n0, y0, t0⟩ := hf 0 _ rfl
    obtain ⟨n1, y1, t1⟩ := hf 1 _ rfl
    obtain ⟨n2, y2, t2⟩ := hf 2 _ rfl
    obtain ⟨k0, e0, _, _⟩ := DataW.trod_int Tryd.underlying3 t0
    obtain ⟨k1, e1, _, _⟩ := DataW.trod_string Tryd.underlying9 t1
    obtain ⟨k2, e2, _, _⟩ := DataW.trod_int Tryd.underlying2 t2
    simp [one3, one9, one2] at e0 e1 e2
    exact ⟨⟨k0, k1.data.toList, k2⟩, by rw [e0, e1, e2, sv_of]; rfl⟩

/-- A script as it comes in; and how long it may be. -/
theorem open_script {H : Type} {enc : TypeId × Value → H} {W : World} {sp : Nat → Bool} {held : Bool} {r : Reach} {b0 : Nat} {v : Value} {d : DataW H} {ps : List MemPlace} {ts : List TypeId} {ds : List (DataW H)} {j : Nat}
    (hval : Value.okWide Tryd.prog W r b0 22 v) (hd : DataW.Trod enc Tryd.prog W 0 sp held 22 v d ps) (hsz : (DataW.weightsEach Tryd.prog ts ds).all (· ≤ reachBytes) = true) (ht : ts[j]? = some 22) (hj : ds[j]? = some d) :
    ∃ ops : List NOp, Els (fun w => w = W) v 3 NOp.enc 31 ops ∧ ops.length < 1099511627776000 := by
  obtain ⟨a, len, cap, rfl⟩ := okWide_slice Tryd.underlying22 hval
  obtain ⟨ops, he, hlen⟩ := open_rows (T := 31) (enc := NOp.enc) Tryd.underlying22 three31 (by decide) (fun _ => rfl) (fun n cs x h => op_cells h) ⟨a, len, cap, rfl⟩ hd
  refine ⟨ops, he, ?_⟩
  rcases hlen with rfl | ⟨el, spr, rfl, hl⟩
  · simp
  · have := sized_slice hsz ht hj Tryd.underlying22
    rw [bytes31] at this
    unfold reachBytes at this
    omega

/-- A text as it comes in. -/
theorem open_text {H : Type} {enc : TypeId × Value → H} {W : World} {base : Nat} {sp : Nat → Bool} {held : Bool} {r : Reach} {b0 : Nat} {v : Value} {d : DataW H} {ps : List MemPlace} (hval : Value.okWide Tryd.prog W r b0 9 v)
    (hd : DataW.Trod enc Tryd.prog W base sp held 9 v d ps) : ∃ s : Str, v = sv s := by
  obtain ⟨s, rfl, _⟩ := open_string Tryd.underlying9 hval hd
  exact ⟨_, sv_of s⟩

/-! ### the tables -/
theorem tabs_of {W : World} (h1 : VarReads Tryd.prog W "unicode/utf8.first" firstData) (h2 : VarReads Tryd.prog W "unicode/utf8.acceptRanges" acceptData) : Tabs W :=
  utf8Tabs_of_readsT (U8Types.of196 Tryd.vld) ⟨by kernel_rfl, by kernel_rfl, by kernel_rfl, by kernel_rfl, by kernel_rfl, by kernel_rfl, by kernel_rfl⟩ h1 h2
theorem acc_eq : (Rows.laid_unicode_utf8_acceptRanges : DataW Unit) = acceptData := by kernel_rfl
abbrev laidL : List (String × DataW Unit) := [("unicode/utf8.acceptRanges", Rows.laid_unicode_utf8_acceptRanges), ("unicode/utf8.first", Rows.laid_unicode_utf8_first)]
theorem tabs_laid {W : World} (hL0 : laidMetH Tryd.prog laidL W) : Tabs W := by
  have hL : laidMet Tryd.prog laidL W := hL0
  have h1 := Lib.laidMet.reads hL (.tail _ (.head _))
  have h2 := Lib.laidMet.reads hL (.head _)
  rw [acc_eq] at h2
  have e : Rows.laid_unicode_utf8_first = firstData := Pinned.utf8First_eq
  rw [e] at h1
  exact tabs_of h1 h2
end Go.Proofs.YtocohlcmkbnegaaDoor
