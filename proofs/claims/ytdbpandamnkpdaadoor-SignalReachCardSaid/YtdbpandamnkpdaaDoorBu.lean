/-
  Scopes that no jump leaves or enters by a label; a map's store, old or new; two cells: a number and a slice.
-/
import Derived.Test.YtdbpandamnkpdaaDoorBq
import Derived.Test.YtdbpandamnkpdaaDoorBl
import Derived.Scope
set_option linter.unusedSimpArgs false
set_option linter.unusedVariables false
namespace Go.Proofs.YtdbpandamnkpdaaDoor
open Go Go.RowKit Go.Lib

theorem stepR_scope {P : Program} {b : Frame} {a : Act} {k : List Item} {cs : List Frame} {w : World} {c : Code} : step P (lone (b.atR a (.code (.scope c) :: k)) cs w) = .next (lone (b.atR a (.code c :: .inScope c :: k)) cs w) :=
  step_lone_go (by simp [stepG, stepG.exec, Frame.atR])
theorem stepR_inScope {P : Program} {b : Frame} {a : Act} {k : List Item} {cs : List Frame} {w : World} {c : Code} : step P (lone (b.atR a (.inScope c :: k)) cs w) = .next (lone (b.atR a k) cs w) :=
  step_lone_go (by simp [stepG, stepG.exec, Frame.atR])
theorem wpIn_scope {F : Fence} {n : Nat} {P : Program} {Q : Exit → Act → World → Prop} {a : Act} {w : World} {c : Code} (h : c.wpIn F n P (Exit.noGoto Q) a w) : (Code.scope c).wpIn F n P Q a w := by
  intro b k cs hro hb hr
  have h0 : (lone (b.atR a (.code (.scope c) :: k)) cs w).fenced P F := fenced_calm hb hr rfl
  obtain ⟨e, a₁, w₁, hq, harr⟩ := h b (.inScope c :: k) cs hro hb hr
  cases e with
  | normal => exact ⟨.normal, a₁, w₁, hq, .head h0 stepR_scope (StepsIn.trans harr (.one (fenced_calm hb hr rfl) stepR_inScope))⟩
  | exit id =>
    have hx : exitTo id (.inScope c :: k) = exitTo id k := by simp [exitTo]
    exact ⟨.exit id, a₁, w₁, hq, fun k' hk => .head h0 stepR_scope (harr.1 k' (by rw [hx]; exact hk)),
      fun hr' hk => let ⟨k₁, h1, h2⟩ := harr.2 hr' (by rw [hx]; exact hk); ⟨k₁, h1, .head h0 stepR_scope h2⟩⟩
  | goto l => exact hq.elim
  | ret => exact ⟨_, a₁, w₁, hq, .of_steps (.one h0 stepR_scope) harr⟩
  | panic ch => exact ⟨_, a₁, w₁, hq, .of_steps (.one h0 stepR_scope) harr⟩
  | outgrown => exact ⟨_, a₁, w₁, hq, .of_steps (.one h0 stepR_scope) harr⟩
theorem TC.scope {c : Cx} {x : Code} {L : Fl} {H : List Chunk} {Q : Exit → Act → World → Prop} (h : TC c x L H (Exit.noGoto Q)) : TC c (.scope x) L H Q := fun a w hf hs => wpIn_scope (h a w hf hs)
theorem TX.scN {c : Cx} {L : Fl} {H : List Chunk} {Q : Exit → Act → World → Prop} (h : TX c .normal L H Q) : TX c .normal L H (Exit.noGoto Q) := fun a w hf hs => h a w hf hs
theorem TX.scR {c : Cx} {L : Fl} {H : List Chunk} {Q : Exit → Act → World → Prop} (h : TX c .ret L H Q) : TX c .ret L H (Exit.noGoto Q) := fun a w hf hs => h a w hf hs
theorem TX.scE {c : Cx} {L : Fl} {H : List Chunk} {Q : Exit → Act → World → Prop} {id : Nat} (h : TX c (.exit id) L H Q) : TX c (.exit id) L H (Exit.noGoto Q) := fun a w hf hs => h a w hf hs


theorem Le.hit13 {H' H C A0 A1 A2 A3 A4 A5 A6 A7 A8 A9 A10 A11 A12} (h : Le H' (A0 :: A1 :: A2 :: A3 :: A4 :: A5 :: A6 :: A7 :: A8 :: A9 :: A10 :: A11 :: A12 :: H)) : Le (C :: H') (A0 :: A1 :: A2 :: A3 :: A4 :: A5 :: A6 :: A7 :: A8 :: A9 :: A10 :: A11 :: A12 :: C :: H) := (Le.hit12 h).trans (Le.hit (Le.hit (Le.hit (Le.hit (Le.hit (Le.hit (Le.hit (Le.hit (Le.hit (Le.hit (Le.hit (Le.hit .swap))))))))))))
theorem Le.hit14 {H' H C A0 A1 A2 A3 A4 A5 A6 A7 A8 A9 A10 A11 A12 A13} (h : Le H' (A0 :: A1 :: A2 :: A3 :: A4 :: A5 :: A6 :: A7 :: A8 :: A9 :: A10 :: A11 :: A12 :: A13 :: H)) : Le (C :: H') (A0 :: A1 :: A2 :: A3 :: A4 :: A5 :: A6 :: A7 :: A8 :: A9 :: A10 :: A11 :: A12 :: A13 :: C :: H) := (Le.hit13 h).trans (Le.hit (Le.hit (Le.hit (Le.hit (Le.hit (Le.hit (Le.hit (Le.hit (Le.hit (Le.hit (Le.hit (Le.hit (Le.hit .swap)))))))))))))
theorem Le.hit15 {H' H C A0 A1 A2 A3 A4 A5 A6 A7 A8 A9 A10 A11 A12 A13 A14} (h : Le H' (A0 :: A1 :: A2 :: A3 :: A4 :: A5 :: A6 :: A7 :: A8 :: A9 :: A10 :: A11 :: A12 :: A13 :: A14 :: H)) : Le (C :: H') (A0 :: A1 :: A2 :: A3 :: A4 :: A5 :: A6 :: A7 :: A8 :: A9 :: A10 :: A11 :: A12 :: A13 :: A14 :: C :: H) := (Le.hit14 h).trans (Le.hit (Le.hit (Le.hit (Le.hit (Le.hit (Le.hit (Le.hit (Le.hit (Le.hit (Le.hit (Le.hit (Le.hit (Le.hit (Le.hit .swap))))))))))))))
theorem Le.hit16 {H' H C A0 A1 A2 A3 A4 A5 A6 A7 A8 A9 A10 A11 A12 A13 A14 A15} (h : Le H' (A0 :: A1 :: A2 :: A3 :: A4 :: A5 :: A6 :: A7 :: A8 :: A9 :: A10 :: A11 :: A12 :: A13 :: A14 :: A15 :: H)) : Le (C :: H') (A0 :: A1 :: A2 :: A3 :: A4 :: A5 :: A6 :: A7 :: A8 :: A9 :: A10 :: A11 :: A12 :: A13 :: A14 :: A15 :: C :: H) := (Le.hit15 h).trans (Le.hit (Le.hit (Le.hit (Le.hit (Le.hit (Le.hit (Le.hit (Le.hit (Le.hit (Le.hit (Le.hit (Le.hit (Le.hit (Le.hit (Le.hit .swap)))))))))))))))
theorem Le.hit17 {H' H C A0 A1 A2 A3 A4 A5 A6 A7 A8 A9 A10 A11 A12 A13 A14 A15 A16} (h : Le H' (A0 :: A1 :: A2 :: A3 :: A4 :: A5 :: A6 :: A7 :: A8 :: A9 :: A10 :: A11 :: A12 :: A13 :: A14 :: A15 :: A16 :: H)) : Le (C :: H') (A0 :: A1 :: A2 :: A3 :: A4 :: A5 :: A6 :: A7 :: A8 :: A9 :: A10 :: A11 :: A12 :: A13 :: A14 :: A15 :: A16 :: C :: H) := (Le.hit16 h).trans (Le.hit (Le.hit (Le.hit (Le.hit (Le.hit (Le.hit (Le.hit (Le.hit (Le.hit (Le.hit (Le.hit (Le.hit (Le.hit (Le.hit (Le.hit (Le.hit .swap))))))))))))))))
theorem Le.hit18 {H' H C A0 A1 A2 A3 A4 A5 A6 A7 A8 A9 A10 A11 A12 A13 A14 A15 A16 A17} (h : Le H' (A0 :: A1 :: A2 :: A3 :: A4 :: A5 :: A6 :: A7 :: A8 :: A9 :: A10 :: A11 :: A12 :: A13 :: A14 :: A15 :: A16 :: A17 :: H)) : Le (C :: H') (A0 :: A1 :: A2 :: A3 :: A4 :: A5 :: A6 :: A7 :: A8 :: A9 :: A10 :: A11 :: A12 :: A13 :: A14 :: A15 :: A16 :: A17 :: C :: H) := (Le.hit17 h).trans (Le.hit (Le.hit (Le.hit (Le.hit (Le.hit (Le.hit (Le.hit (Le.hit (Le.hit (Le.hit (Le.hit (Le.hit (Le.hit (Le.hit (Le.hit (Le.hit (Le.hit .swap)))))))))))))))))
theorem Le.hit19 {H' H C A0 A1 A2 A3 A4 A5 A6 A7 A8 A9 A10 A11 A12 A13 A14 A15 A16 A17 A18} (h : Le H' (A0 :: A1 :: A2 :: A3 :: A4 :: A5 :: A6 :: A7 :: A8 :: A9 :: A10 :: A11 :: A12 :: A13 :: A14 :: A15 :: A16 :: A17 :: A18 :: H)) : Le (C :: H') (A0 :: A1 :: A2 :: A3 :: A4 :: A5 :: A6 :: A7 :: A8 :: A9 :: A10 :: A11 :: A12 :: A13 :: A14 :: A15 :: A16 :: A17 :: A18 :: C :: H) := (Le.hit18 h).trans (Le.hit (Le.hit (Le.hit (Le.hit (Le.hit (Le.hit (Le.hit (Le.hit (Le.hit (Le.hit (Le.hit (Le.hit (Le.hit (Le.hit (Le.hit (Le.hit (Le.hit (Le.hit .swap))))))))))))))))))

/-! ### a loop that ranges over functions: each round leaves its mark in the frame -/
def DM (ms : List Nat) : Chunk := ms.map fun d => (d, .deferred (some []))
abbrev Cx.at_ (c : Cx) (D : List Deferred) : Cx := ⟨c.P, c.rd, c.N, D, c.w0⟩
def BackM (c : Cx) {ι : Type} (Df : ι → List Deferred) (Lf : ι → Fl) (Hf : ι → List Chunk) (φ : ι → Prop) (μ : ι → Nat) (i : ι) (a : Act) (w : World) : Prop :=
  ∃ j, φ j ∧ μ j < μ i ∧ Fr a (Df j) c.N (Lf j) ∧ St c.w0 w (Hf j)
theorem TC.loopM {c : Cx} {body : Code} {L : Fl} {H : List Chunk} {Q : Exit → Act → World → Prop} {ι : Type} (Df : ι → List Deferred) (Lf : ι → Fl) (Hf : ι → List Chunk) (φ : ι → Prop) (μ : ι → Nat) (i0 : ι) (h0 : φ i0) (hD : Df i0 = c.D) (hL : Sub (Lf i0) L) (hH : Le (Hf i0) H)
    (round : ∀ i, φ i → TC (c.at_ (Df i)) body (Lf i) (Hf i) (Exit.then (BackM c Df Lf Hf φ μ i) Q)) : TC c (.loop body) L H Q := by
  classical
  intro a w hf hs
  let I : Act → World → Prop := fun a w => ∃ i, φ i ∧ Fr a (Df i) c.N (Lf i) ∧ St c.w0 w (Hf i)
  let m : Act → World → Nat → Prop := fun a w k => ∃ i, φ i ∧ Fr a (Df i) c.N (Lf i) ∧ St c.w0 w (Hf i) ∧ μ i = k
  have hex : ∀ a w, I a w → ∃ k, m a w k := fun a w ⟨i, h1, h2, h3⟩ => ⟨μ i, i, h1, h2, h3, rfl⟩
  let M : Act → World → Nat := fun a w => if h : ∃ k, m a w k then (least h).choose else 0
  refine wpIn_loop I M ⟨i0, h0, hD ▸ hf.weak hL, hs.le hH⟩ ?_
  intro a w hI
  have hx := hex a w hI
  have hM : M a w = (least hx).choose := by simp only [M]; rw [dif_pos hx]
  obtain ⟨i, h1, h2, h3, h4⟩ := (least hx).choose_spec.1
  refine wpIn_mono (round i h1 a w h2 h3) ?_
  intro e a' w' hq
  cases e with
  | normal =>
    obtain ⟨j, k1, k2, k3, k4⟩ := hq
    refine ⟨⟨j, k1, k3, k4⟩, ?_⟩
    have hx' := hex a' w' ⟨j, k1, k3, k4⟩
    have hM' : M a' w' = (least hx').choose := by simp only [M]; rw [dif_pos hx']
    have hle : (least hx').choose ≤ μ j := (least hx').choose_spec.2 _ ⟨j, k1, k3, k4, rfl⟩
    rw [hM, hM', ← h4]
    omega
  | exit id => exact hq
  | goto l => exact hq
  | ret => exact hq
  | panic ch => exact hq
  | outgrown => exact hq
theorem TX.backM {c c' : Cx} {L : Fl} {H : List Chunk} {Q : Exit → Act → World → Prop} {ι : Type} {Df : ι → List Deferred} {Lf : ι → Fl} {Hf : ι → List Chunk} {φ : ι → Prop} {μ : ι → Nat} {i : ι} (j : ι) (hφ : φ j) (hμ : μ j < μ i) (hD : c'.D = Df j) (hN : c'.N = c.N) (hw : c'.w0 = c.w0) (hL : Sub (Lf j) L) (hH : Le (Hf j) H) :
    TX c' .normal L H (Exit.then (BackM c Df Lf Hf φ μ i) Q) :=
  fun a w hf hs => ⟨j, hφ, hμ, hN ▸ (hD ▸ hf).weak hL, (hw ▸ hs).le hH⟩
theorem leavesMs {P : Program} {fn : Func} {tmps : Array Value} {R : Ending → World → Prop} {w0 : World} {H : List Chunk} (hl : ∀ w, St w0 w H → LeavesInM (fen none) 0 P fn tmps R [] .returning w) :
    ∀ (ms : List Nat) (w : World), St w0 w (DM ms :: H) → LeavesInM (fen none) 0 P fn tmps R (ms.map mark) .returning w
  | [], w, hs => hl w (hs.le (Le.skip (Le.refl _)))
  | d :: ms, w, hs => by
    have hs1 : St w0 w ([(d, .deferred (some []))] :: DM ms :: H) := hs.le ⟨[], by simp [DM]⟩
    have hu : Upd ([(d, .deferred (some []))] :: DM ms :: H) d (.deferred (some [])) (.deferred none) ([(d, .deferred none)] :: DM ms :: H) := .hd
    have hs2 := (hs1.upd hu).le (Le.skip (Le.refl _))
    exact ⟨by simp, .inl ⟨d, _, rfl, run_takeDeferred (hs1.has hu.has), leavesMs hl ms _ hs2⟩⟩
theorem TX.doneMs {c : Cx} {fn : Func} {R : Ending → World → Prop} {L : Fl} {H H1 : List Chunk} {v : Value} {ms : List Nat} (hD : c.D = ms.map mark) (hl : Le (DM ms :: H1) H) (hv : Res c.P fn L c.w0 H1 v) (hR : ∀ w, St c.w0 w H1 → R (.returned v) w) :
    TX c .ret L H (bodyPostM (fen none) 0 c.P fn R) := by
  intro a w hf hs
  show LeavesInM (fen none) 0 c.P fn a.tmps R a.defers .returning w
  rw [hf.defers, hD]
  exact leavesMs (H := H1) (fun w' hs' => ⟨_, hv a.tmps _ hf.get hs', hR _ hs'⟩) ms w (hs.le hl)
end Go.Proofs.YtdbpandamnkpdaaDoor
