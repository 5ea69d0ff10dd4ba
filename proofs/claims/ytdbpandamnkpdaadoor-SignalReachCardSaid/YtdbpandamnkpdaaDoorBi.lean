/-
  Ranges over functions: what an iterator promises, what a loop over it owes.
-/
import Derived.Test.YtdbpandamnkpdaaDoorBh
set_option linter.unusedSimpArgs false
set_option linter.unusedVariables false
namespace Go.Proofs.YtdbpandamnkpdaaDoor
open Go Go.RowKit

theorem Le.of_perm {H' H : List Chunk} (h : H'.Perm H) : Le H' H := ⟨[], by rw [List.append_nil]; exact h.flatten⟩
theorem Le.rot (A B C : List Chunk) : Le (C ++ (A ++ B)) (A ++ (B ++ C)) := Le.of_perm (by rw [← List.append_assoc A B C]; exact List.perm_append_comm)
theorem Le.rot' (A B C : List Chunk) : Le (A ++ (B ++ C)) (C ++ (A ++ B)) := Le.of_perm (by rw [← List.append_assoc A B C]; exact List.perm_append_comm)

theorem Le.abc (A B C : List Chunk) : Le (A ++ (B ++ C)) (C ++ (B ++ A)) := Le.of_perm (by
  rw [← List.append_assoc A B C]
  exact List.perm_append_comm.trans (List.perm_append_comm.append_left C))

/-- A call of a loop's body. -/
def Yields1 (P : Program) (l : Nat) (x : List Value) (w : World) (R : World → Bool → Prop) : Prop :=
  ∃ fn tmps assign body, (Instr.yield l x.toArray).run P w = .ok (.round l fn tmps assign body) w ∧
    RoundIn (fen none) 0 P l fn tmps assign body w (fun e w' => ∃ b, e = .returned (.bool b) ∧ R w' b)

/-- An iterator over xs, that reads the blocks Hit. -/
def Iter (P : Program) (gf : FuncId) (cap : List Value) (Hit : List Chunk) (xs : List (List Value)) : Prop :=
  ∀ (w0 : World) (l : Nat) (J : Nat → List Chunk → Prop) (Jx : List Chunk → Prop),
    (∀ i x, xs[i]? = some x → ∀ R w HL, J i R → St w0 w (HL ++ (Hit ++ R)) → Yields1 P l x w (fun w' b => ∃ R', (match b with | true => J (i + 1) R' | false => Jx R') ∧ St w0 w' (HL ++ (Hit ++ R')))) →
    ∀ R w, J 0 R → St w0 w (Hit ++ R) → Calls P gf (Value.func (.yield l) #[] #[] :: cap).toArray w (fun e w' => e = .returned (.tuple #[]) ∧ ∃ R', (J xs.length R' ∨ Jx R') ∧ St w0 w' (Hit ++ R'))

theorem run_yieldOp {P : Program} {ρ L g l xs vs ats ty} (hk : Knows ρ L) (hg : ev L g = some (.func (.yield l) #[] #[])) (hx : evs L xs = some vs) (w : World) (dst pos aft gd) :
    (execOp ρ ⟨dst, .call { callee := .value g, args := xs.toArray, argTypes := ats }, ty, pos, aft, gd⟩).run P w = (Instr.yield l vs.toArray).run P w := by
  have h1 := hk g _ hg
  have h2 := evs_map hk hx
  simp only [execOp, resolve, h1, Deferred.ofValue, List.map_toArray, h2, Sem.run_bind, Sem.run_pure, Result.andThen_ok, invoke, Array.empty_append]

/-- yield called by an iterator. -/
theorem TL.yield {c : Cx} {ops Q d g l xs vs ats ty pos aft rest L H} {A B : List Chunk → Prop} {G : List Chunk → List Chunk} (hrd : c.rd = none) (hg : ev L g = some (.func (.yield l) #[] #[])) (hx : evs L xs = some vs)
    (hy : ∀ w, St c.w0 w H → Yields1 c.P l vs w (fun w' b => ∃ R', (match b with | true => A R' | false => B R') ∧ St c.w0 w' (G R')))
    (kt : ∀ R', A R' → TL c ops Q rest ((d, .bool true) :: L) (G R')) (kf : ∀ R', B R' → TL c ops Q rest ((d, .bool false) :: L) (G R')) (hd : Nat.blt d c.N = true := by rfl) :
    TL c ops Q (⟨some d, .call { callee := .value g, args := xs.toArray, argTypes := ats }, ty, pos, aft, none⟩ :: rest) L H := by
  intro a w hf hst
  refine wpl_step rfl rfl ?_
  obtain ⟨fn, tmps, assign, body, hrun, hround⟩ := hy w hst
  rw [run_yieldOp hf.knows hg hx, hrun, Oper.uponIn_round]
  refine ⟨fun h => (by cases h), ?_⟩
  rw [hrd]
  refine hround.mono ?_
  rintro e w' ⟨b, rfl, R', hp, hs'⟩
  cases b with
  | true => exact hrd ▸ kt R' hp _ _ (hf.put hd _) hs'
  | false => exact hrd ▸ kf R' hp _ _ (hf.put hd _) hs'

/-- The frame in which a round begins. -/
def zipL : List Nat → List Value → Fl → Fl
  | p :: ps, v :: vs, L => zipL ps vs ((p, v) :: L)
  | _, _, L => L
theorem Fr.zip {D N} : ∀ {ps : List Nat} {vs : List Value} {tmps : Array Value} {L : Fl}, Fr ⟨tmps, D⟩ D N L → ps.all (fun p => Nat.blt p N) = true →
    Fr ⟨(ps.zip vs).foldl (fun t x => t.setIfInBounds x.1 x.2) tmps, D⟩ D N (zipL ps vs L)
  | [], _, tmps, L, h, _ => by simpa [zipL] using h
  | p :: ps, [], tmps, L, h, _ => by simpa [zipL] using h
  | p :: ps, v :: vs, tmps, L, h, hp => by
    simp only [List.all_cons, Bool.and_eq_true] at hp
    have h1 := h.put hp.1 v
    simp only [List.zip_cons_cons, List.foldl_cons, zipL]
    exact Fr.zip (ps := ps) (vs := vs) h1 hp.2

/-- How a round's body may be left. -/
def jumpOf : Option Nat → Code
  | some id => .exit id
  | none => .ret
def RoundQ (w0 : World) (HL : List Chunk) (A : List Chunk → Prop) (X : Option Nat → List Chunk → Prop) : Exit → Act → World → Prop
  | .normal, _, w => ∃ R', A R' ∧ St w0 w (R' ++ HL)
  | .ret, _, w => ∃ R', X none R' ∧ St w0 w (R' ++ HL)
  | .exit id, _, w => ∃ R', X (some id) R' ∧ St w0 w (R' ++ HL)
  | _, _, _ => False
/-- Between the assignment to the loop's variables and its body. -/
def NextB (c : Cx) (HL HL' : List Chunk) (body : Code) (Q : Exit → Act → World → Prop) (a : Act) (w : World) : Prop :=
  ∃ R2 L2, Fr a c.D c.N L2 ∧ St c.w0 w (R2 ++ HL) ∧ TC c body L2 (R2 ++ HL') Q
theorem TX.begin {c : Cx} {HL HL' body Q Q'} {R2 : List Chunk} {L2 : Fl} (h : TC c body L2 (R2 ++ HL') Q) : TX c .normal L2 (R2 ++ HL) (Exit.then (NextB c HL HL' body Q) Q') :=
  fun a w hf hs => ⟨R2, L2, hf, hs, h⟩
theorem TX.roundN {c : Cx} {HL A X R' L H} (h : A R') (hl : Le (R' ++ HL) H) : TX c .normal L H (RoundQ c.w0 HL A X) := fun a w hf hs => ⟨R', h, hs.le hl⟩
theorem TX.roundR {c : Cx} {HL A X R' L H} (h : X none R') (hl : Le (R' ++ HL) H) : TX c .ret L H (RoundQ c.w0 HL A X) := fun a w hf hs => ⟨R', h, hs.le hl⟩
theorem TX.roundE {c : Cx} {HL A X R' L H id} (h : X (some id) R') (hl : Le (R' ++ HL) H) : TX c (.exit id) L H (RoundQ c.w0 HL A X) := fun a w hf hs => ⟨R', h, hs.le hl⟩

abbrev mark (d : Nat) : Deferred := { target := .collected d, args := #[] }

theorem TC.rangeF {c : Cx} {g : Operand} {ps : List Nat} {assign body : Code} {L : Fl} {H Hit R0 : List Chunk} {Q : Exit → Act → World → Prop} {gf : FuncId} {cap : List Value} {xs : List (List Value)}
    (hrd : c.rd = none) (hg : ev L g = some (.func (.func gf) #[] cap.toArray)) (hc : ∀ args w, (callFunc gf args).run c.P w = .ok (.enter gf args) w) (hit : Iter c.P gf cap Hit xs) (hps : ∀ x ∈ xs, x.length = ps.length)
    (hpN : ps.all (fun p => Nat.blt p c.N) = true) (hH : Le (Hit ++ R0) H)
    (I : Nat → List Chunk → Prop) (X : Option Nat → List Chunk → Prop) (h0 : I 0 R0)
    (hround : ∀ l i x R HL HL', xs[i]? = some x → I i R →
      TC ⟨c.P, some l, c.N, [], c.w0⟩ assign (zipL ps x L) (R ++ HL) (Exit.then (NextB ⟨c.P, some l, c.N, [], c.w0⟩ HL HL' body (RoundQ c.w0 HL' (I (i + 1)) X)) (fun _ _ _ => False)))
    (hdone : ∀ d R, I xs.length R → TX ⟨c.P, none, c.N, mark d :: c.D, c.w0⟩ .normal L ([(d, .deferred (some []))] :: (R ++ Hit)) Q)
    (hjump : ∀ d R j, X j R → TC ⟨c.P, none, c.N, mark d :: c.D, c.w0⟩ (jumpOf j) L ([(d, .deferred (some []))] :: (R ++ Hit)) Q) :
    TC c (.rangeFunc g ps.toArray assign body) L H Q := by
  intro a w hf hst
  rw [hrd]
  refine wpIn_rangeFunc ?_
  intro fn _
  obtain ⟨rec, hrec⟩ : ∃ rec : LoopState → Option Code → Loop, rec = fun st pe => { state := st, pending := pe, fn, tmps := a.tmps, params := ps.toArray, assign, body, defers := w.heap.size } := ⟨_, rfl⟩
  obtain ⟨l, hl⟩ : ∃ l, l = w.heap.size + 1 := ⟨_, rfl⟩
  obtain ⟨d, hd⟩ : ∃ d, d = w.heap.size := ⟨_, rfl⟩
  have hst1 : St c.w0 ((w.alloc (.deferred (some []))).alloc (.loop (rec .ready none))) ([(l, .loop (rec .ready none))] :: [(d, .deferred (some []))] :: H) := by
    have := (hst.alloc (.deferred (some []))).alloc (.loop (rec .ready none))
    rw [World.size_alloc] at this
    rw [hl, hd]; exact this
  refine ⟨l, [mark d], (w.alloc (.deferred (some []))).alloc (.loop (rec .ready none)), { target := .fn (.func gf) cap.toArray, args := #[.func (.yield l) #[] #[]] }, (w.alloc (.deferred (some []))).alloc (.loop (rec .ready none)), gf,
    (Value.func (.yield l) #[] #[] :: cap).toArray, (w.alloc (.deferred (some []))).alloc (.loop (rec .ready none)), ?_, ?_, fun _ _ => trivial, ?_, fun h => (by cases h), ?_⟩
  · rw [hl, hd, hrec]; exact run_enterLoop_outer _ _ _ _ _
  · have hgv := hf.ev hg
    have hm : (#[Operand.const (.func (.yield l) #[] #[])] : Array Operand).map a.eval = #[.func (.yield l) #[] #[]] := by simp [Act.eval]
    simp only [resolve, hgv, hm, Deferred.ofValue, Sem.run_pure]
    rfl
  · simp [invoke, hc]
  · -- the iterator
    let T : Obj → List Chunk := fun o => [[(l, o)], [(d, .deferred (some []))]]
    let J : Nat → List Chunk → Prop := fun i R'' => ∃ R, I i R ∧ R'' = R ++ T (.loop (rec .ready none))
    let Jx : List Chunk → Prop := fun R'' => ∃ R j, X j R ∧ R'' = R ++ T (.loop (rec .done (some (jumpOf j))))
    have hfr : Fr ⟨a.tmps, []⟩ [] c.N L := ⟨rfl, hf.size, hf.get⟩
    have key := hit c.w0 l J Jx ?_ (R0 ++ T (.loop (rec .ready none))) ((w.alloc (.deferred (some []))).alloc (.loop (rec .ready none))) ⟨R0, h0, rfl⟩ ?_
    · refine callsIn_of (key.mono ?_)
      rintro e w' ⟨rfl, R'', hJ, hs'⟩
      rcases hJ with ⟨R, hI, rfl⟩ | ⟨R, j, hX, rfl⟩
      · -- all have come
        have hs2 : St c.w0 w' ([(l, .loop (rec .ready none))] :: [(d, .deferred (some []))] :: (R ++ Hit)) := hs'.le (Le.abc [[(l, .loop (rec .ready none))], [(d, .deferred (some []))]] R Hit)
        have hlp := hs2.has .hd
        have hend := run_endLoop (P := c.P) hlp (by rw [hrec]; simp)
        have hpend : (rec .ready none).pending = none := by rw [hrec]
        obtain ⟨o, ho⟩ : ∃ o, o = Obj.loop { rec .ready none with state := .exhausted } := ⟨_, rfl⟩
        rw [← ho, hpend] at hend
        refine ⟨none, _, hend, ?_⟩
        have hs3 := (hs2.upd (o' := o) .hd).drop
        exact hdone d R hI _ _ ⟨by simp [hf.defers], hf.size, hf.get⟩ hs3
      · have hs2 : St c.w0 w' ([(l, .loop (rec .done (some (jumpOf j))))] :: [(d, .deferred (some []))] :: (R ++ Hit)) := hs'.le (Le.abc [[(l, .loop (rec .done (some (jumpOf j))))], [(d, .deferred (some []))]] R Hit)
        have hlp := hs2.has .hd
        have hend := run_endLoop (P := c.P) hlp (by rw [hrec]; simp)
        have hpend : (rec .done (some (jumpOf j))).pending = some (jumpOf j) := by rw [hrec]
        obtain ⟨o, ho⟩ : ∃ o, o = Obj.loop { rec .done (some (jumpOf j)) with state := .exhausted } := ⟨_, rfl⟩
        rw [← ho, hpend] at hend
        refine ⟨some (jumpOf j), _, hend, ?_⟩
        have hs3 := (hs2.upd (o' := o) .hd).drop
        exact hjump d R j hX _ _ ⟨by simp [hf.defers], hf.size, hf.get⟩ hs3
    · -- one round
      rintro i x hx R'' W HL ⟨R, hI, rfl⟩ hsW
      have hxl : x.length = ps.length := hps x (List.mem_of_getElem? hx)
      have hs1 : St c.w0 W (R ++ ([(l, .loop (rec .ready none))] :: ([(d, .deferred (some []))] :: (HL ++ Hit)))) := hsW.le (by
        have := Le.rot HL Hit (R ++ T (.loop (rec .ready none)))
        simpa [T, List.append_assoc] using this)
      have hlp : W.heap[l]? = some (.loop (rec .ready none)) := (hs1.at_ (l, .loop (rec .ready none)) (by simp)).2
      have hy := run_yield (P := c.P) (args := x.toArray) hlp (by rw [hrec]; simpa using hxl)
      have hfold : ((rec .ready none).params.zip x.toArray).foldl (fun t (p, v) => t.setIfInBounds p v) (rec .ready none).tmps = (ps.zip x).foldl (fun t y => t.setIfInBounds y.1 y.2) a.tmps := by
        rw [hrec]; simp [← Array.foldl_toList]
      rw [hfold] at hy
      have e1 : (rec .ready none).fn = fn := by rw [hrec]
      have e2 : (rec .ready none).assign = assign := by rw [hrec]
      have e3 : (rec .ready none).body = body := by rw [hrec]
      rw [e1, e2, e3] at hy
      refine ⟨fn, _, assign, body, hy, ?_⟩
      refine roundIn_of_wpIn trivial ?_
      have hr := hround l i x R ([(l, .loop (rec .ready none))] :: ([(d, .deferred (some []))] :: (HL ++ Hit))) ([(l, .loop { rec .ready none with state := .busy })] :: ([(d, .deferred (some []))] :: (HL ++ Hit))) hx hI
        ⟨(ps.zip x).foldl (fun t y => t.setIfInBounds y.1 y.2) a.tmps, []⟩ W (Fr.zip hfr hpN) hs1
      refine wpIn_mono hr ?_
      intro e a1 w1 hq
      cases e with
      | normal =>
        obtain ⟨R2, L2, hf2, hs2, hbody⟩ := hq
        have hlp1 : w1.heap[l]? = some (.loop (rec .ready none)) := (hs2.at_ (l, .loop (rec .ready none)) (by simp)).2
        have hbeg := run_beginRound (P := c.P) hlp1 (by rw [hrec])
        refine ⟨_, hbeg, ?_⟩
        have hs2' : St c.w0 w1 ([(l, .loop (rec .ready none))] :: (R2 ++ ([(d, .deferred (some []))] :: (HL ++ Hit)))) := hs2.le (Le.of_perm List.perm_middle.symm)
        have hs3 := hs2'.upd (o' := .loop { rec .ready none with state := .busy }) .hd
        have hs3' : St c.w0 (w1.putObj l (.loop { rec .ready none with state := .busy })) (R2 ++ ([(l, .loop { rec .ready none with state := .busy })] :: ([(d, .deferred (some []))] :: (HL ++ Hit)))) := hs3.le (Le.of_perm List.perm_middle)
        refine wpIn_mono (hbody a1 _ hf2 hs3') ?_
        have fin : ∀ (jump : Option Code) (R' : List Chunk) (w3 : World), St c.w0 w3 (R' ++ ([(l, .loop { rec .ready none with state := .busy })] :: ([(d, .deferred (some []))] :: (HL ++ Hit)))) →
            ∃ w4, (Instr.endRound l jump).run c.P w3 = .ok (.bool jump.isNone) w4 ∧ St c.w0 w4 (HL ++ (Hit ++ (R' ++ T (.loop (rec (if jump.isNone then .ready else .done) jump))))) := by
          intro jump R' w3 hs4
          have hs4' : St c.w0 w3 ([(l, .loop { rec .ready none with state := .busy })] :: (R' ++ ([(d, .deferred (some []))] :: (HL ++ Hit)))) := hs4.le (Le.of_perm List.perm_middle.symm)
          have hend := run_endRound (P := c.P) jump (hs4'.has .hd)
          have hs5 := hs4'.upd (o' := .loop { rec .ready none with state := if jump.isNone then .ready else .done, pending := jump }) .hd
          refine ⟨_, hend, ?_⟩
          have e4 : ({ rec .ready none with state := if jump.isNone then .ready else .done, pending := jump } : Loop) = rec (if jump.isNone then .ready else .done) jump := by rw [hrec]
          rw [e4] at hs5 ⊢
          refine hs5.le ?_
          refine (Le.rot' HL Hit (R' ++ T (.loop (rec (if jump.isNone then .ready else .done) jump)))).trans ?_
          simp only [T, List.append_assoc, List.cons_append, List.nil_append]
          exact Le.of_perm List.perm_middle
        intro e2' a3 w3 hq3
        cases e2' with
        | normal =>
          obtain ⟨R', hA, hs4⟩ := hq3
          obtain ⟨w4, hend, hs5⟩ := fin none R' w3 hs4
          exact ⟨_, w4, hend, true, rfl, _, ⟨R', hA, rfl⟩, hs5⟩
        | ret =>
          obtain ⟨R', hX, hs4⟩ := hq3
          obtain ⟨w4, hend, hs5⟩ := fin (some .ret) R' w3 hs4
          exact ⟨_, w4, hend, false, rfl, _, ⟨R', none, hX, rfl⟩, hs5⟩
        | exit id =>
          obtain ⟨R', hX, hs4⟩ := hq3
          obtain ⟨w4, hend, hs5⟩ := fin (some (.exit id)) R' w3 hs4
          exact ⟨_, w4, hend, false, rfl, _, ⟨R', some id, hX, rfl⟩, hs5⟩
        | goto t => exact hq3.elim
        | panic ch => exact hq3.elim
        | outgrown => exact hq3.elim
      | exit id => exact hq.elim
      | goto t => exact hq.elim
      | ret => exact hq.elim
      | panic ch => exact hq.elim
      | outgrown => exact hq.elim
    · refine hst1.le ?_
      refine (Le.rot' Hit R0 (T (.loop (rec .ready none)))).trans ?_
      simp only [T, List.cons_append, List.nil_append]
      exact Le.hit (Le.hit hH)

/-! ### leaving a function that ranged over functions -/
theorem TX.doneM {c : Cx} {fn R L H H' v d} (hD : c.D = [mark d]) (hu : Upd H d (.deferred (some [])) (.deferred none) H') (hv : Res c.P fn L c.w0 H' v) (hR : ∀ w, St c.w0 w H' → R (.returned v) w) :
    TX c .ret L H (bodyPostM (fen none) 0 c.P fn R) := by
  intro a w hf hs
  show LeavesInM (fen none) 0 c.P fn a.tmps R a.defers .returning w
  rw [hf.defers, hD]
  have hs' := hs.upd hu
  exact ⟨by simp, .inl ⟨d, _, rfl, run_takeDeferred (hs.has hu.has), _, hv a.tmps _ hf.get hs', hR _ hs'⟩⟩
theorem TX.doneM2 {c : Cx} {fn R L H H' H'' v d e} (hD : c.D = [mark d, mark e]) (hu : Upd H d (.deferred (some [])) (.deferred none) H') (hu' : Upd H' e (.deferred (some [])) (.deferred none) H'') (hv : Res c.P fn L c.w0 H'' v) (hR : ∀ w, St c.w0 w H'' → R (.returned v) w) :
    TX c .ret L H (bodyPostM (fen none) 0 c.P fn R) := by
  intro a w hf hs
  show LeavesInM (fen none) 0 c.P fn a.tmps R a.defers .returning w
  rw [hf.defers, hD]
  have hs' := hs.upd hu
  have hs'' := hs'.upd hu'
  exact ⟨by simp, .inl ⟨d, _, rfl, run_takeDeferred (hs.has hu.has), by simp, .inl ⟨e, _, rfl, run_takeDeferred (hs'.has hu'.has), _, hv a.tmps _ hf.get hs'', hR _ hs''⟩⟩⟩
end Go.Proofs.YtdbpandamnkpdaaDoor
