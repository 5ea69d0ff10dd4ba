/-
  What the rows of this seat share: how terms and cases come in; the two tables that were laid.
-/
import Derived.Test.YtdbpandamnkpdaaDoorTie
import Derived.Test.YtdbpandamnkpdaaDoorCards
import Derived.Test.YtdbpandamnkpdaaDoorBs
import Derived.Test.YtdbpandamnkpdaaDoorSj
import Derived.Deep.DeepHandedRow
import Derived.Deep.DeepWitnessRowRef
import Derived.ProofKit
import Derived.SizedLaws
import Derived.Carry
import Derived.Lib.LaidIn
import Derived.Lib.LaidU8T
import Derived.PinnedBridge
set_option linter.unusedVariables false
set_option maxRecDepth 100000
namespace Go.Proofs.YtdbpandamnkpdaaDoor
open Go Go.ChangeShapes Go.WideShapes Go.ChangeAt Go.RowKit Go.Lib
open Go.ChangeMaps (open_string)

theorem own_ : ownKnob Tryd.prog.godebug = none := by kernel_rfl
theorem laid_ : laidOutB Tryd.prog = true := by kernel_rfl
theorem one3 : Tryd.prog.cellsOf 3 = 1 := by kernel_rfl
theorem one2 : Tryd.prog.cellsOf 2 = 1 := by kernel_rfl
theorem one9 : Tryd.prog.cellsOf 9 = 1 := by kernel_rfl
theorem three57 : Tryd.prog.cellsOf 57 = 3 := by kernel_rfl
theorem bytes57 : Tryd.prog.bytesOf 57 = 32 := by kernel_rfl
theorem sv_of (s : ByteArray) : Value.string s = sv s.data.toList := by
  cases s; simp [sv]
theorem cl_cells {H : Type} {enc : TypeId × Value → H} {W : World} {base : Nat} {sp : Nat → Bool} {held : Bool} {n : Nat} {cs : List Value} {x : DataW H × List MemPlace} (h : DataW.trod enc Tryd.prog W base sp held n 57 cs = some x) : ∃ o : Cl, cs = o.enc := by
  obtain ⟨hl, hf⟩ := trod_cells Tryd.underlying57 h
  rw [three57] at hl
  match cs, hl with
  | [c0, c1, c2], _ =>
    obtain ⟨n0, y0, t0⟩ := hf 0 _ rfl
    obtain ⟨n1, y1, t1⟩ := hf 1 _ rfl
    obtain ⟨n2, y2, t2⟩ := hf 2 _ rfl
    obtain ⟨k0, e0, _, _⟩ := DataW.trod_int Tryd.underlying3 t0
    obtain ⟨k1, e1, _, _⟩ := DataW.trod_int Tryd.underlying2 t1
    obtain ⟨k2, e2, _, _⟩ := DataW.trod_string Tryd.underlying9 t2
    simp [one3, one9, one2] at e0 e1 e2
    exact ⟨⟨k0, k1, k2.data.toList⟩, by rw [e0, e1, e2, sv_of]; rfl⟩
/-- A term as it comes in; and how long it may be. -/
theorem open_term {H : Type} {enc : TypeId × Value → H} {W : World} {sp : Nat → Bool} {held : Bool} {r : Go.Reach} {b0 : Nat} {v : Value} {d : DataW H} {ps : List MemPlace} {ts : List TypeId} {ds : List (DataW H)} {j : Nat}
    (hval : Value.okWide Tryd.prog W r b0 22 v) (hd : DataW.Trod enc Tryd.prog W 0 sp held 22 v d ps) (hsz : (DataW.weightsEach Tryd.prog ts ds).all (· ≤ reachBytes) = true) (ht : ts[j]? = some 22) (hj : ds[j]? = some d) :
    ∃ xs : List Cl, Els (fun w => w = W) v 3 Cl.enc 57 xs ∧ xs.length ≤ 4398046511000 := by
  obtain ⟨a, len, cap, rfl⟩ := okWide_slice Tryd.underlying22 hval
  obtain ⟨xs, he, hlen⟩ := open_rows (T := 57) (enc := Cl.enc) Tryd.underlying22 three57 (by decide) (fun _ => rfl) (fun n cs x h => cl_cells h) ⟨a, len, cap, rfl⟩ hd
  refine ⟨xs, he, ?_⟩
  rcases hlen with rfl | ⟨el, spr, rfl, hl⟩
  · simp
  · have := sized_slice hsz ht hj Tryd.underlying22
    rw [bytes57] at this
    unfold reachBytes at this
    omega
theorem trodAll_five {H : Type} {enc : TypeId × Value → H} {P : Program} {w : World} {base : Nat} {spare : Nat → Bool} {held : Bool} {t t' t'' t3 t4 : TypeId} {args : Array Value} {ds : List (DataW H)} {ps : List MemPlace} (h : DataW.TrodAll enc P w base spare held [t, t', t'', t3, t4] args.toList ds ps) :
    ∃ v v' v'' v3 v4 d d' d'' d3 d4 p p' p'' p3 p4, args = #[v, v', v'', v3, v4] ∧ ds = [d, d', d'', d3, d4] ∧ ps = p ++ p' ++ p'' ++ p3 ++ p4 ∧ DataW.Trod enc P w base spare held t v d p ∧ DataW.Trod enc P w base spare held t' v' d' p' ∧ DataW.Trod enc P w base spare held t'' v'' d'' p'' ∧ DataW.Trod enc P w base spare held t3 v3 d3 p3 ∧ DataW.Trod enc P w base spare held t4 v4 d4 p4 := by
  obtain ⟨v, vs, d, ds', p, q, hargs, rfl, rfl, hd, hrest⟩ := trodAll_cons h
  obtain ⟨v', vs', d', ds'', p', q', rfl, rfl, rfl, hd', hrest'⟩ := trodAll_cons hrest
  obtain ⟨v'', vs'', d'', ds''', p'', q'', rfl, rfl, rfl, hd'', hrest''⟩ := trodAll_cons hrest'
  obtain ⟨v3, vs3, d3, ds3, p3, q3, rfl, rfl, rfl, hd3, hrest3⟩ := trodAll_cons hrest''
  obtain ⟨v4, vs4, d4, ds4, p4, q4, rfl, rfl, rfl, hd4, hrest4⟩ := trodAll_cons hrest3
  obtain ⟨rfl, rfl, rfl⟩ := trodAll_nil hrest4
  exact ⟨v, v', v'', v3, v4, d, d', d'', d3, d4, p, p', p'', p3, p4, by cases args; simp_all, rfl, by simp, hd, hd', hd'', hd3, hd4⟩

/-! ### cases -/
theorem four38 : Tryd.prog.cellsOf 38 = 4 := by kernel_rfl
theorem slice_cells {H : Type} {enc : TypeId × Value → H} {P : Program} {W : World} {base : Nat} {sp : Nat → Bool} {held : Bool} {t e : TypeId} {n : Nat} {c : Value} {x : DataW H × List MemPlace} (ht : P.underlying t = some (.slice e)) (h : DataW.trod enc P W base sp held n t [c] = some x) : ∃ a l k, c = .slice a l k := by
  rcases Go.Deep.open_slice ht h with ⟨hcs, _⟩ | ⟨a, len, cap, m, n, D, Pl, hcs, _⟩
  · exact ⟨none, 0, 0, by simpa using hcs⟩
  · exact ⟨some a, len, cap, by simpa using hcs⟩

/-! ### the tables -/
theorem u8types : U8Types Tryd.prog Tryd.dec_ren := { Tryd.dec with }
theorem tabs_of {W : World} (h1 : VarReads Tryd.prog W "unicode/utf8.first" firstData) (h2 : VarReads Tryd.prog W "unicode/utf8.acceptRanges" acceptData) : Tabs W :=
  utf8Tabs_of_readsT u8types ⟨by kernel_rfl, by kernel_rfl, by kernel_rfl, by kernel_rfl, by kernel_rfl, by kernel_rfl, by kernel_rfl⟩ h1 h2
theorem acc_eq : (Rows.laid_unicode_utf8_acceptRanges : DataW Unit) = acceptData := by kernel_rfl
abbrev laidL : List (String × DataW Unit) := [("unicode/utf8.acceptRanges", Rows.laid_unicode_utf8_acceptRanges), ("unicode/utf8.first", Rows.laid_unicode_utf8_first)]
theorem tabs_laid {W : World} (hL0 : laidMetH Tryd.prog laidL W) : Tabs W := by
  have hL : laidMet Tryd.prog laidL W := hL0
  have h1 := Lib.laidMet.reads hL (.tail _ (.head _))
  have h2 := Lib.laidMet.reads hL (.head _)
  rw [acc_eq] at h2
  have e : Rows.laid_unicode_utf8_first = firstData := Pinned.utf8First_eq
  rw [e] at h1
  exact tabs_of h1 h2
noncomputable def laidWorld (os : Os) : World :=
  let w0 := World.holding Tryd.prog os ⟨#[], #[], []⟩
  let put (h : Array Obj) (g : Nat) (cs : Array Value) : Array Obj := h.modify g fun
    | .cells _ t frozen => .cells cs t frozen
    | o => o
  let h1 := put w0.heap 0 (Lib.firstTab.map fun z => Value.int .u8 z).toArray
  let h2 := put h1 1 ((List.range 16).flatMap fun i => [Value.int .u8 (Lib.accLo i), Value.int .u8 (Lib.accHi i)]).toArray
  { w0 with heap := h2 }
theorem laid_met (os : Os) (args : Array Value) : laidMet Tryd.prog laidL ((laidWorld os).forCall (fun _ _ => 0) ⟨#[], args, []⟩).memory :=
  (LaidIn.of_run (l := laidL) [1, 0] 8 (by kernel_rfl) (by kernel_rfl) (by kernel_rfl) (by kernel_rfl)).met
end Go.Proofs.YtdbpandamnkpdaaDoor
