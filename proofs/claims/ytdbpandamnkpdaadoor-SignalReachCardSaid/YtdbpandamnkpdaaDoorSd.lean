/-
  Send; the law handles terms: the same, lent, kept, spoilt.
-/
import Derived.Test.YtdbpandamnkpdaaDoorSc
set_option linter.unusedSimpArgs false
set_option linter.unusedVariables false
set_option maxRecDepth 100000
namespace Go.Proofs.YtdbpandamnkpdaaDoor
open Go Go.RowKit Go.Lib

def killS : Str := [107, 105, 108, 108]
def killedS : Str := [107, 105, 108, 108, 101, 100]
def normalS : Str := [110, 111, 114, 109, 97, 108]
def spoiltS : Str := [115, 112, 111, 105, 108, 116]
def behS : Str := [98, 101, 104, 105, 110, 100]
def markC : Cl := ⟨0, 0, [98, 101, 104, 105, 110, 100, 32, 119, 104, 97, 116, 32, 119, 97, 115, 32, 104, 97, 110, 100, 101, 100, 32, 105, 110]⟩
/-- What an exit signal does. -/
def sendM (f t : Int) (xs : List Cl) (trap : Bool) : Int × List Cl × Int :=
  if okPid f = false ∨ okPid t = false then (0, [], 1)
  else if (rightE xs).1 ≠ 0 then (0, [], (rightE xs).1)
  else if isA xs killS = true then (1, [atomC killedS], 0)
  else if trap = true then (2, (exitM f xs).1, 0)
  else if isA xs normalS = true ∧ f ≠ t then (0, [], 0)
  else (1, xs, 0)
section
variable {f t : Int} {xs : List Cl} {trap : Bool}
theorem send_pid (h : okPid f = false ∨ okPid t = false) : sendM f t xs trap = (0, [], 1) := by unfold sendM; rw [if_pos h]
theorem send_bad (h : ¬ (okPid f = false ∨ okPid t = false)) (h1 : (rightE xs).1 ≠ 0) : sendM f t xs trap = (0, [], (rightE xs).1) := by unfold sendM; rw [if_neg h, if_pos h1]
theorem send_kill (h : ¬ (okPid f = false ∨ okPid t = false)) (h1 : (rightE xs).1 = 0) (h2 : isA xs killS = true) : sendM f t xs trap = (1, [atomC killedS], 0) := by unfold sendM; rw [if_neg h, if_neg (by omega), if_pos h2]
theorem send_trap (h : ¬ (okPid f = false ∨ okPid t = false)) (h1 : (rightE xs).1 = 0) (h2 : ¬ isA xs killS = true) (h3 : trap = true) : sendM f t xs trap = (2, (exitM f xs).1, 0) := by unfold sendM; rw [if_neg h, if_neg (by omega), if_neg h2, if_pos h3]
theorem send_nothing (h : ¬ (okPid f = false ∨ okPid t = false)) (h1 : (rightE xs).1 = 0) (h2 : ¬ isA xs killS = true) (h3 : trap = false) (h4 : isA xs normalS = true ∧ f ≠ t) : sendM f t xs trap = (0, [], 0) := by unfold sendM; rw [if_neg h, if_neg (by omega), if_neg h2, if_neg (by simp [h3]), if_pos h4]
theorem send_dies (h : ¬ (okPid f = false ∨ okPid t = false)) (h1 : (rightE xs).1 = 0) (h2 : ¬ isA xs killS = true) (h3 : trap = false) (h4 : ¬ (isA xs normalS = true ∧ f ≠ t)) : sendM f t xs trap = (1, xs, 0) := by unfold sendM; rw [if_neg h, if_neg (by omega), if_neg h2, if_neg (by simp [h3]), if_neg h4]
end
theorem neC {Lf : Fl} {t u : Nat} {ty ty' : TypeId} (x : Cl) (hx : ev Lf (.tmp t) = some x.v := by rfl) (hb : ev Lf (.tmp u) = some x.v := by rfl) : EvP Tryd.prog (.binOp .neq 57 (.tmp t) (.tmp u) ty') ty Lf (.bool false) := by
  have := EvP.neStruct (ty := ty) (ty' := ty') (r := true) (xs := x.enc) (ys := x.enc) hx hb Tryd.underlying57 (by kernel_rfl) Tryd.eqGuardType57
    (.cons (by decide) Tryd.isAgg3 rfl rfl (eqIntIn Tryd.runUnderlying3) (.cons (by decide) Tryd.isAgg2 rfl rfl (eqIntIn Tryd.runUnderlying2) (.cons (by decide) Tryd.isAgg9 rfl rfl (eqStrIn Tryd.runUnderlying9) .nil))) (by simp)
  exact this
theorem Els.takeS {α : Type} {S : World → Prop} {a : Option Addr} {n cap k : Nat} {enc : α → List Value} {T : TypeId} {xs : List α} (h : Els S (.slice a n cap) k enc T xs) {j : Nat} (hj : j ≤ xs.length) : Els S (.slice a j cap) k enc T (xs.take j) := by
  obtain ⟨⟨a', cap', e⟩, h2⟩ := h
  simp only [Value.slice.injEq] at e
  obtain ⟨rfl, rfl, rfl⟩ := e
  refine ⟨⟨a, cap, by rw [List.length_take, Nat.min_eq_left hj]⟩, fun i x hx => ?_⟩
  have hi : i < j := by
    have := (List.getElem?_eq_some_iff.1 hx).1
    rw [List.length_take] at this; omega
  rw [List.getElem?_take_of_lt hi] at hx
  obtain ⟨b, off, len, cp, l, T', fz, e, hj', hb, hc⟩ := h2 i x hx
  simp only [Value.slice.injEq] at e
  obtain ⟨rfl, rfl, rfl⟩ := e
  exact ⟨b, off, j, cap, l, T', fz, rfl, hi, hb, hc⟩
/-- A slice with the mark behind it. -/
def Mk (v : Value) (xs : List Cl) (C : Chunk) : Prop :=
  ∃ p cap, v = .slice p xs.length cap ∧ xs.length + 1 ≤ cap ∧ (∀ q, p = some q → q.spot = none) ∧ Sl 57 3 Cl.enc (.slice p (xs.length + 1) cap) (xs ++ [markC]) C
theorem Mk.els {v : Value} {xs : List Cl} {C : Chunk} {w0 : World} {H : List Chunk} (h : Mk v xs C) (hC : C ∈ H) : Els (fun w => St w0 w H) v 3 Cl.enc 57 xs := by
  obtain ⟨p, cap, rfl, _, _, hs⟩ := h
  have := (hs.els (w0 := w0) encC_ok hC).takeS (j := xs.length) (by simp)
  simpa using this
theorem mk_open {v : Value} {xs : List Cl} {C : Chunk} (h : Sl 57 3 Cl.enc v (xs ++ [markC]) C) : ∃ p cap, (∀ q, p = some q → q.spot = none) ∧ xs.length + 1 ≤ cap ∧ Sl 57 3 Cl.enc (.slice p (xs.length + 1) cap) (xs ++ [markC]) C ∧ v = .slice p (xs.length + 1) cap := by
  obtain ⟨a, cap, e, hc, hs⟩ := h.len
  simp only [List.length_append, List.length_singleton] at e hc
  subst e
  exact ⟨a, cap, hs, hc, h, rfl⟩
theorem setLs1 {l l' : List Value} {n : Nat} {c : Cl} (h : SetLs l n c.enc l') : SetLs l (n + 1) [.int .i64 1] (l.set (n + 1) (.int .i64 1)) := by
  have hn : n + 1 < l.length := by
    cases h with
    | cons h1 h2 =>
      cases h2 with
      | cons h3 _ =>
        have := (SetL.eq h1).1
        have h4 := (SetL.eq h3).2
        rw [this, List.length_set] at h4
        exact h4
  exact SetLs.cons (SetL.of hn) SetLs.nil

theorem send_spec {w0 w : World} {R : List Chunk} {v : Value} {xs : List Cl} (hT : Tabs w0) (f t : Int) (trap : Bool) (he : Els (fun w => St w0 w R) v 3 Cl.enc 57 xs) (hsz : xs.length ≤ 4398046511000) (hst : St w0 w R) : Calls Tryd.prog 8 #[.int .i64 f, .int .i64 t, v, .bool trap] w (Post1 w0 R fun u C => ∃ m, u = .tuple #[.int .i64 (sendM f t xs trap).1, m, .int .i64 (sendM f t xs trap).2.2] ∧ Sl 57 3 Cl.enc m (sendM f t xs trap).2.1 C) := by
  obtain ⟨⟨a, cap, rfl⟩, _⟩ := id he
  refine calls_of (args := [_, _, _, _]) Tryd.func8 rfl Tryd.ntmps8 hst ?_
  refine TC.seq ?_
  refine TC.region ?_
  refine TL.p (EvP.assign rfl) ?_
  refine TL.p (EvP.assign rfl) ?_
  refine TL.p (EvP.assign rfl) ?_
  refine TL.nil ?_
  refine TX.thenN rfl rfl ?_
  refine TC.seq ?_
  refine TC.seq ?_
  refine TC.region ?_
  refine TL.p (EvP.move rfl) ?_
  refine TL.callA rfl rfl Tryd.call26 (fun w hs => pid_spec _ hs) ?_
  rintro _ rfl
  refine TL.p (EvP.not rfl) ?_
  refine TL.p (EvP.move rfl) ?_
  refine TL.bsplit 18 rfl (fun h18 => ?_) (fun h18 => ?_)
  · refine TL.gN rfl rfl rfl ?_
    refine TL.gN rfl rfl rfl ?_
    refine TL.gN rfl rfl rfl ?_
    refine TL.p (EvP.pickT rfl rfl) ?_
    refine TL.nil ?_
    refine TX.thenN rfl rfl ?_
    refine TC.ctrue rfl ?_
    refine TC.seq ?_
    refine TC.region ?_
    refine TL.p (EvP.assign rfl) ?_
    refine TL.p (EvP.assign rfl) ?_
    refine TL.p (EvP.assign rfl) ?_
    refine TL.nil ?_
    refine TX.thenN rfl rfl ?_
    refine TC.ret ?_
    refine TX.thenR ?_
    refine TX.done rfl (Res.three rfl rfl rfl rfl) (fun w hs => Post1.mk (C := []) hs ?_ (Le.trans Le.nilC (by repeat (first | exact Le.refl _ | exact Le.nil _ | refine Le.hit ?_ | refine Le.hit1 ?_ | refine Le.hit2 ?_ | refine Le.hit3 ?_ | refine Le.hit4 ?_ | refine Le.hit5 ?_ | refine Le.hit6 ?_ | refine Le.hit7 ?_ | refine Le.hit8 ?_ | refine Le.hit9 ?_ | refine Le.hit10 ?_ | refine Le.skip ?_))))
    rw [send_pid (by simp_all)]
    exact ⟨_, rfl, Sl.nil⟩
  · refine TL.gY rfl rfl rfl ?_
    refine TL.p (EvP.move rfl) ?_
    refine TL.gY rfl rfl rfl ?_
    refine TL.callA rfl rfl Tryd.call26 (fun w hs => pid_spec _ hs) ?_
    rintro _ rfl
    refine TL.gY rfl rfl rfl ?_
    refine TL.p (EvP.not rfl) ?_
    refine TL.p (EvP.pickF rfl rfl) ?_
    refine TL.nil ?_
    refine TX.thenN rfl rfl ?_
    refine TC.cond rfl (fun h22 => ?_) (fun h22 => ?_)
    · refine TC.seq ?_
      refine TC.region ?_
      refine TL.p (EvP.assign rfl) ?_
      refine TL.p (EvP.assign rfl) ?_
      refine TL.p (EvP.assign rfl) ?_
      refine TL.nil ?_
      refine TX.thenN rfl rfl ?_
      refine TC.ret ?_
      refine TX.thenR ?_
      refine TX.done rfl (Res.three rfl rfl rfl rfl) (fun w hs => Post1.mk (C := []) hs ?_ (Le.trans Le.nilC (by repeat (first | exact Le.refl _ | exact Le.nil _ | refine Le.hit ?_ | refine Le.hit1 ?_ | refine Le.hit2 ?_ | refine Le.hit3 ?_ | refine Le.hit4 ?_ | refine Le.hit5 ?_ | refine Le.hit6 ?_ | refine Le.hit7 ?_ | refine Le.hit8 ?_ | refine Le.hit9 ?_ | refine Le.hit10 ?_ | refine Le.skip ?_))))
      rw [send_pid (by simp_all)]
      exact ⟨_, rfl, Sl.nil⟩
    · refine TC.skip ?_
      refine TX.thenN rfl rfl ?_
      refine TC.seq ?_
      refine TC.seq ?_
      refine TC.region ?_
      refine TL.p (EvP.move rfl) ?_
      refine TL.callA rfl rfl Tryd.call27 (fun w hs => wright_spec hT (he.sub (by repeat (first | exact Le.refl _ | exact Le.nil _ | refine Le.hit ?_ | refine Le.hit1 ?_ | refine Le.hit2 ?_ | refine Le.hit3 ?_ | refine Le.hit4 ?_ | refine Le.hit5 ?_ | refine Le.hit6 ?_ | refine Le.hit7 ?_ | refine Le.hit8 ?_ | refine Le.hit9 ?_ | refine Le.hit10 ?_ | refine Le.skip ?_))) (by omega) hs) ?_
      rintro _ rfl
      refine TL.p (EvP.move rfl) ?_
      refine TL.p (EvP.extract rfl rfl) ?_
      refine TL.p (EvP.extract rfl rfl) ?_
      refine TL.p (EvP.assign rfl) ?_
      refine TL.p (EvP.assign rfl) ?_
      refine TL.nil ?_
      refine TX.thenN rfl rfl ?_
      refine TC.seq ?_
      refine TC.region ?_
      refine TL.p (EvP.move rfl) ?_
      refine TL.dec (EvP.ne rfl rfl) (fun h29 => ?_) (fun h29 => ?_)
      · refine TL.nil ?_
        refine TX.thenN rfl rfl ?_
        refine TC.ctrue rfl ?_
        refine TC.seq ?_
        refine TC.region ?_
        refine TL.p (EvP.move rfl) ?_
        refine TL.p (EvP.assign rfl) ?_
        refine TL.p (EvP.assign rfl) ?_
        refine TL.p (EvP.assign rfl) ?_
        refine TL.nil ?_
        refine TX.thenN rfl rfl ?_
        refine TC.ret ?_
        refine TX.thenR ?_
        refine TX.done rfl (Res.three rfl rfl rfl rfl) (fun w hs => Post1.mk (C := []) hs ?_ (Le.trans Le.nilC (by repeat (first | exact Le.refl _ | exact Le.nil _ | refine Le.hit ?_ | refine Le.hit1 ?_ | refine Le.hit2 ?_ | refine Le.hit3 ?_ | refine Le.hit4 ?_ | refine Le.hit5 ?_ | refine Le.hit6 ?_ | refine Le.hit7 ?_ | refine Le.hit8 ?_ | refine Le.hit9 ?_ | refine Le.hit10 ?_ | refine Le.skip ?_))))
        rw [send_bad (by simp_all) (by omega)]
        exact ⟨_, rfl, Sl.nil⟩
      · refine TL.nil ?_
        refine TX.thenN rfl rfl ?_
        refine TC.cfalse rfl ?_
        refine TC.skip ?_
        refine TX.thenN rfl rfl ?_
        refine TC.seq ?_
        refine TC.block ?_
        refine TC.seq ?_
        refine TC.region ?_
        refine TL.p (EvP.move rfl) ?_
        refine TL.callA rfl rfl Tryd.call28 (fun w hs => is_spec (he.sub (by repeat (first | exact Le.refl _ | exact Le.nil _ | refine Le.hit ?_ | refine Le.hit1 ?_ | refine Le.hit2 ?_ | refine Le.hit3 ?_ | refine Le.hit4 ?_ | refine Le.hit5 ?_ | refine Le.hit6 ?_ | refine Le.hit7 ?_ | refine Le.hit8 ?_ | refine Le.hit9 ?_ | refine Le.hit10 ?_ | refine Le.skip ?_))) killS hs) ?_
        rintro _ rfl
        refine TL.p (EvP.assign rfl) ?_
        refine TL.nil ?_
        refine TX.thenN rfl rfl ?_
        refine TC.cond rfl (fun h31 => ?_) (fun h31 => ?_)
        · refine TC.seq ?_
          refine TC.region ?_
          refine TL.callB rfl rfl Tryd.call29 (fun w hs => atom_spec killedS hs) ?_
          rintro uK CK hK
          refine TL.p (EvP.assign rfl) ?_
          refine TL.p (EvP.assign rfl) ?_
          refine TL.p (EvP.assign rfl) ?_
          refine TL.nil ?_
          refine TX.thenN rfl rfl ?_
          refine TC.ret ?_
          refine TX.blkR ?_
          refine TX.thenR ?_
          refine TX.done rfl (Res.three rfl rfl rfl rfl) (fun w hs => Post1.mk (C := CK) hs ?_ (by repeat (first | exact Le.refl _ | exact Le.nil _ | refine Le.hit ?_ | refine Le.hit1 ?_ | refine Le.hit2 ?_ | refine Le.hit3 ?_ | refine Le.hit4 ?_ | refine Le.hit5 ?_ | refine Le.hit6 ?_ | refine Le.hit7 ?_ | refine Le.hit8 ?_ | refine Le.hit9 ?_ | refine Le.hit10 ?_ | refine Le.skip ?_)))
          rw [send_kill (by simp_all) (by omega) (by assumption)]
          exact ⟨_, rfl, hK⟩
        · refine TC.seq ?_
          refine TC.region ?_
          refine TL.p (EvP.move rfl) ?_
          refine TL.p (EvP.assign rfl) ?_
          refine TL.nil ?_
          refine TX.thenN rfl rfl ?_
          refine TC.cond rfl (fun h35 => ?_) (fun h35 => ?_)
          · refine TC.seq ?_
            refine TC.region ?_
            refine TL.p (EvP.move rfl) ?_
            refine TL.p (EvP.move rfl) ?_
            refine TL.callB rfl rfl Tryd.call12 (fun w hs => exit_spec hT f (he.sub (by repeat (first | exact Le.refl _ | exact Le.nil _ | refine Le.hit ?_ | refine Le.hit1 ?_ | refine Le.hit2 ?_ | refine Le.hit3 ?_ | refine Le.hit4 ?_ | refine Le.hit5 ?_ | refine Le.hit6 ?_ | refine Le.hit7 ?_ | refine Le.hit8 ?_ | refine Le.hit9 ?_ | refine Le.hit10 ?_ | refine Le.skip ?_))) hsz hs) ?_
            rintro _ CM ⟨uM, rfl, hM⟩
            refine TL.p (EvP.move rfl) ?_
            refine TL.p (EvP.extract rfl rfl) ?_
            refine TL.p (EvP.extract rfl rfl) ?_
            refine TL.p (EvP.assign rfl) ?_
            refine TL.p (EvP.assign rfl) ?_
            refine TL.nil ?_
            refine TX.thenN rfl rfl ?_
            refine TC.seq ?_
            refine TC.region ?_
            refine TL.p (EvP.move rfl) ?_
            refine TL.p (EvP.assign rfl) ?_
            refine TL.p (EvP.assign rfl) ?_
            refine TL.p (EvP.assign rfl) ?_
            refine TL.nil ?_
            refine TX.thenN rfl rfl ?_
            refine TC.ret ?_
            refine TX.blkR ?_
            refine TX.thenR ?_
            refine TX.done rfl (Res.three rfl rfl rfl rfl) (fun w hs => Post1.mk (C := CM) hs ?_ (by repeat (first | exact Le.refl _ | exact Le.nil _ | refine Le.hit ?_ | refine Le.hit1 ?_ | refine Le.hit2 ?_ | refine Le.hit3 ?_ | refine Le.hit4 ?_ | refine Le.hit5 ?_ | refine Le.hit6 ?_ | refine Le.hit7 ?_ | refine Le.hit8 ?_ | refine Le.hit9 ?_ | refine Le.hit10 ?_ | refine Le.skip ?_)))
            rw [send_trap (by simp_all) (by omega) (by simp_all) (by assumption)]
            exact ⟨_, rfl, hM⟩
          · refine TC.seq ?_
            refine TC.region ?_
            refine TL.p (EvP.move rfl) ?_
            refine TL.callA rfl rfl Tryd.call28 (fun w hs => is_spec (he.sub (by repeat (first | exact Le.refl _ | exact Le.nil _ | refine Le.hit ?_ | refine Le.hit1 ?_ | refine Le.hit2 ?_ | refine Le.hit3 ?_ | refine Le.hit4 ?_ | refine Le.hit5 ?_ | refine Le.hit6 ?_ | refine Le.hit7 ?_ | refine Le.hit8 ?_ | refine Le.hit9 ?_ | refine Le.hit10 ?_ | refine Le.skip ?_))) normalS hs) ?_
            rintro _ rfl
            refine TL.p (EvP.move rfl) ?_
            refine TL.bsplit 47 rfl (fun h47 => ?_) (fun h47 => ?_)
            · refine TL.gY rfl rfl rfl ?_
              refine TL.p (EvP.move rfl) ?_
              refine TL.gY rfl rfl rfl ?_
              refine TL.p (EvP.move rfl) ?_
              refine TL.gY rfl rfl rfl ?_
              refine TL.dec (EvP.ne rfl rfl) (fun h50 => ?_) (fun h50 => ?_)
              · refine TL.p (EvP.pickT rfl rfl) ?_
                refine TL.p (EvP.assign rfl) ?_
                refine TL.nil ?_
                refine TX.thenN rfl rfl ?_
                refine TC.ctrue rfl ?_
                refine TC.seq ?_
                refine TC.region ?_
                refine TL.p (EvP.assign rfl) ?_
                refine TL.p (EvP.assign rfl) ?_
                refine TL.p (EvP.assign rfl) ?_
                refine TL.nil ?_
                refine TX.thenN rfl rfl ?_
                refine TC.ret ?_
                refine TX.blkR ?_
                refine TX.thenR ?_
                refine TX.done rfl (Res.three rfl rfl rfl rfl) (fun w hs => Post1.mk (C := []) hs ?_ (Le.trans Le.nilC (by repeat (first | exact Le.refl _ | exact Le.nil _ | refine Le.hit ?_ | refine Le.hit1 ?_ | refine Le.hit2 ?_ | refine Le.hit3 ?_ | refine Le.hit4 ?_ | refine Le.hit5 ?_ | refine Le.hit6 ?_ | refine Le.hit7 ?_ | refine Le.hit8 ?_ | refine Le.hit9 ?_ | refine Le.hit10 ?_ | refine Le.skip ?_))))
                rw [send_nothing (by simp_all) (by omega) (by simp_all) (by assumption) (by simp_all)]
                exact ⟨_, rfl, Sl.nil⟩
              · refine TL.p (EvP.pickT rfl rfl) ?_
                refine TL.p (EvP.assign rfl) ?_
                refine TL.nil ?_
                refine TX.thenN rfl rfl ?_
                refine TC.cfalse rfl ?_
                refine TC.skip ?_
                refine TX.blkN ?_
                refine TX.thenN rfl rfl ?_
                refine TC.seq ?_
                refine TC.region ?_
                refine TL.p (EvP.move rfl) ?_
                refine TL.callB rfl rfl Tryd.call30 (fun w hs => clone_spec (he.sub (by repeat (first | exact Le.refl _ | exact Le.nil _ | refine Le.hit ?_ | refine Le.hit1 ?_ | refine Le.hit2 ?_ | refine Le.hit3 ?_ | refine Le.hit4 ?_ | refine Le.hit5 ?_ | refine Le.hit6 ?_ | refine Le.hit7 ?_ | refine Le.hit8 ?_ | refine Le.hit9 ?_ | refine Le.hit10 ?_ | refine Le.skip ?_))) hsz hs) ?_
                rintro uC CC hCC
                refine TL.p (EvP.assign rfl) ?_
                refine TL.p (EvP.assign rfl) ?_
                refine TL.p (EvP.assign rfl) ?_
                refine TL.nil ?_
                refine TX.thenN rfl rfl ?_
                refine TC.ret ?_
                refine TX.done rfl (Res.three rfl rfl rfl rfl) (fun w hs => Post1.mk (C := CC) hs ?_ (by repeat (first | exact Le.refl _ | exact Le.nil _ | refine Le.hit ?_ | refine Le.hit1 ?_ | refine Le.hit2 ?_ | refine Le.hit3 ?_ | refine Le.hit4 ?_ | refine Le.hit5 ?_ | refine Le.hit6 ?_ | refine Le.hit7 ?_ | refine Le.hit8 ?_ | refine Le.hit9 ?_ | refine Le.hit10 ?_ | refine Le.skip ?_)))
                rw [send_dies (by simp_all) (by omega) (by simp_all) (by assumption) (by simp_all)]
                exact ⟨_, rfl, hCC⟩
            · refine TL.gN rfl rfl rfl ?_
              refine TL.gN rfl rfl rfl ?_
              refine TL.gN rfl rfl rfl ?_
              refine TL.p (EvP.pickF rfl rfl) ?_
              refine TL.p (EvP.assign rfl) ?_
              refine TL.nil ?_
              refine TX.thenN rfl rfl ?_
              refine TC.cfalse rfl ?_
              refine TC.skip ?_
              refine TX.blkN ?_
              refine TX.thenN rfl rfl ?_
              refine TC.seq ?_
              refine TC.region ?_
              refine TL.p (EvP.move rfl) ?_
              refine TL.callB rfl rfl Tryd.call30 (fun w hs => clone_spec (he.sub (by repeat (first | exact Le.refl _ | exact Le.nil _ | refine Le.hit ?_ | refine Le.hit1 ?_ | refine Le.hit2 ?_ | refine Le.hit3 ?_ | refine Le.hit4 ?_ | refine Le.hit5 ?_ | refine Le.hit6 ?_ | refine Le.hit7 ?_ | refine Le.hit8 ?_ | refine Le.hit9 ?_ | refine Le.hit10 ?_ | refine Le.skip ?_))) hsz hs) ?_
              rintro uC CC hCC
              refine TL.p (EvP.assign rfl) ?_
              refine TL.p (EvP.assign rfl) ?_
              refine TL.p (EvP.assign rfl) ?_
              refine TL.nil ?_
              refine TX.thenN rfl rfl ?_
              refine TC.ret ?_
              refine TX.done rfl (Res.three rfl rfl rfl rfl) (fun w hs => Post1.mk (C := CC) hs ?_ (by repeat (first | exact Le.refl _ | exact Le.nil _ | refine Le.hit ?_ | refine Le.hit1 ?_ | refine Le.hit2 ?_ | refine Le.hit3 ?_ | refine Le.hit4 ?_ | refine Le.hit5 ?_ | refine Le.hit6 ?_ | refine Le.hit7 ?_ | refine Le.hit8 ?_ | refine Le.hit9 ?_ | refine Le.hit10 ?_ | refine Le.skip ?_)))
              rw [send_dies (by simp_all) (by omega) (by simp_all) (by assumption) (by simp_all)]
              exact ⟨_, rfl, hCC⟩

theorem rsend_spec {w0 w : World} {R : List Chunk} {v : Value} {xs : List Cl} (f t : Int) (trap : Bool) (he : Els (fun w => St w0 w R) v 3 Cl.enc 57 xs) (hsz : xs.length ≤ 4398046511000) (hst : St w0 w R) : Calls Tryd.prog 9 #[.int .i64 f, .int .i64 t, v, .bool trap] w (Post1 w0 R fun u C => ∃ m, u = .tuple #[.int .i64 (sendM f t xs trap).1, m, .int .i64 (sendM f t xs trap).2.2] ∧ Els (fun w => St w0 w (C :: R)) m 3 Cl.enc 57 (sendM f t xs trap).2.1) := by
  obtain ⟨⟨a, cap, rfl⟩, _⟩ := id he
  refine calls_of (args := [_, _, _, _]) Tryd.func9 rfl Tryd.ntmps9 hst ?_
  refine TC.seq ?_
  refine TC.region ?_
  refine TL.p (EvP.assign rfl) ?_
  refine TL.p (EvP.assign rfl) ?_
  refine TL.p (EvP.assign rfl) ?_
  refine TL.nil ?_
  refine TX.thenN rfl rfl ?_
  refine TC.seq ?_
  refine TC.seq ?_
  refine TC.region ?_
  refine TL.p (EvP.move rfl) ?_
  refine TL.callA rfl rfl Tryd.call31 (fun w hs => rp_spec _ hs) ?_
  rintro _ rfl
  refine TL.p (EvP.not rfl) ?_
  refine TL.p (EvP.move rfl) ?_
  refine TL.bsplit 18 rfl (fun h18 => ?_) (fun h18 => ?_)
  · refine TL.gN rfl rfl rfl ?_
    refine TL.gN rfl rfl rfl ?_
    refine TL.gN rfl rfl rfl ?_
    refine TL.p (EvP.pickT rfl rfl) ?_
    refine TL.nil ?_
    refine TX.thenN rfl rfl ?_
    refine TC.ctrue rfl ?_
    refine TC.seq ?_
    refine TC.region ?_
    refine TL.p (EvP.assign rfl) ?_
    refine TL.p (EvP.assign rfl) ?_
    refine TL.p (EvP.assign rfl) ?_
    refine TL.nil ?_
    refine TX.thenN rfl rfl ?_
    refine TC.ret ?_
    refine TX.thenR ?_
    refine TX.done rfl (Res.three rfl rfl rfl rfl) (fun w hs => Post1.mk (C := []) hs ?_ (Le.trans Le.nilC (by repeat (first | exact Le.refl _ | exact Le.nil _ | refine Le.hit ?_ | refine Le.hit1 ?_ | refine Le.hit2 ?_ | refine Le.hit3 ?_ | refine Le.hit4 ?_ | refine Le.hit5 ?_ | refine Le.hit6 ?_ | refine Le.hit7 ?_ | refine Le.hit8 ?_ | refine Le.hit9 ?_ | refine Le.hit10 ?_ | refine Le.skip ?_))))
    rw [send_pid (by simp_all)]
    exact ⟨_, rfl, Sl.els Sl.nil encC_ok (by simp)⟩
  · refine TL.gY rfl rfl rfl ?_
    refine TL.p (EvP.move rfl) ?_
    refine TL.gY rfl rfl rfl ?_
    refine TL.callA rfl rfl Tryd.call31 (fun w hs => rp_spec _ hs) ?_
    rintro _ rfl
    refine TL.gY rfl rfl rfl ?_
    refine TL.p (EvP.not rfl) ?_
    refine TL.p (EvP.pickF rfl rfl) ?_
    refine TL.nil ?_
    refine TX.thenN rfl rfl ?_
    refine TC.cond rfl (fun h22 => ?_) (fun h22 => ?_)
    · refine TC.seq ?_
      refine TC.region ?_
      refine TL.p (EvP.assign rfl) ?_
      refine TL.p (EvP.assign rfl) ?_
      refine TL.p (EvP.assign rfl) ?_
      refine TL.nil ?_
      refine TX.thenN rfl rfl ?_
      refine TC.ret ?_
      refine TX.thenR ?_
      refine TX.done rfl (Res.three rfl rfl rfl rfl) (fun w hs => Post1.mk (C := []) hs ?_ (Le.trans Le.nilC (by repeat (first | exact Le.refl _ | exact Le.nil _ | refine Le.hit ?_ | refine Le.hit1 ?_ | refine Le.hit2 ?_ | refine Le.hit3 ?_ | refine Le.hit4 ?_ | refine Le.hit5 ?_ | refine Le.hit6 ?_ | refine Le.hit7 ?_ | refine Le.hit8 ?_ | refine Le.hit9 ?_ | refine Le.hit10 ?_ | refine Le.skip ?_))))
      rw [send_pid (by simp_all)]
      exact ⟨_, rfl, Sl.els Sl.nil encC_ok (by simp)⟩
    · refine TC.skip ?_
      refine TX.thenN rfl rfl ?_
      refine TC.seq ?_
      refine TC.seq ?_
      refine TC.region ?_
      refine TL.p (EvP.move rfl) ?_
      refine TL.callA rfl rfl Tryd.call32 (fun w hs => rright_spec (he.sub (by repeat (first | exact Le.refl _ | exact Le.nil _ | refine Le.hit ?_ | refine Le.hit1 ?_ | refine Le.hit2 ?_ | refine Le.hit3 ?_ | refine Le.hit4 ?_ | refine Le.hit5 ?_ | refine Le.hit6 ?_ | refine Le.hit7 ?_ | refine Le.hit8 ?_ | refine Le.hit9 ?_ | refine Le.hit10 ?_ | refine Le.skip ?_))) (by omega) hs) ?_
      rintro _ rfl
      refine TL.p (EvP.move rfl) ?_
      refine TL.p (EvP.extract rfl rfl) ?_
      refine TL.p (EvP.extract rfl rfl) ?_
      refine TL.p (EvP.assign rfl) ?_
      refine TL.p (EvP.assign rfl) ?_
      refine TL.nil ?_
      refine TX.thenN rfl rfl ?_
      refine TC.seq ?_
      refine TC.region ?_
      refine TL.p (EvP.move rfl) ?_
      refine TL.dec (EvP.ne rfl rfl) (fun h29 => ?_) (fun h29 => ?_)
      · refine TL.nil ?_
        refine TX.thenN rfl rfl ?_
        refine TC.ctrue rfl ?_
        refine TC.seq ?_
        refine TC.region ?_
        refine TL.p (EvP.move rfl) ?_
        refine TL.p (EvP.assign rfl) ?_
        refine TL.p (EvP.assign rfl) ?_
        refine TL.p (EvP.assign rfl) ?_
        refine TL.nil ?_
        refine TX.thenN rfl rfl ?_
        refine TC.ret ?_
        refine TX.thenR ?_
        refine TX.done rfl (Res.three rfl rfl rfl rfl) (fun w hs => Post1.mk (C := []) hs ?_ (Le.trans Le.nilC (by repeat (first | exact Le.refl _ | exact Le.nil _ | refine Le.hit ?_ | refine Le.hit1 ?_ | refine Le.hit2 ?_ | refine Le.hit3 ?_ | refine Le.hit4 ?_ | refine Le.hit5 ?_ | refine Le.hit6 ?_ | refine Le.hit7 ?_ | refine Le.hit8 ?_ | refine Le.hit9 ?_ | refine Le.hit10 ?_ | refine Le.skip ?_))))
        rw [send_bad (by simp_all) (by omega)]
        exact ⟨_, rfl, Sl.els Sl.nil encC_ok (by simp)⟩
      · refine TL.nil ?_
        refine TX.thenN rfl rfl ?_
        refine TC.cfalse rfl ?_
        refine TC.skip ?_
        refine TX.thenN rfl rfl ?_
        refine TC.seq ?_
        refine TC.seq ?_
        refine TC.region ?_
        refine TL.p (EvP.move rfl) ?_
        refine TL.callA rfl rfl Tryd.call20 (fun w hs => rIs_spec (he.sub (by repeat (first | exact Le.refl _ | exact Le.nil _ | refine Le.hit ?_ | refine Le.hit1 ?_ | refine Le.hit2 ?_ | refine Le.hit3 ?_ | refine Le.hit4 ?_ | refine Le.hit5 ?_ | refine Le.hit6 ?_ | refine Le.hit7 ?_ | refine Le.hit8 ?_ | refine Le.hit9 ?_ | refine Le.hit10 ?_ | refine Le.skip ?_))) killS hs) ?_
        rintro _ rfl
        refine TL.nil ?_
        refine TX.thenN rfl rfl ?_
        refine TC.cond rfl (fun h32 => ?_) (fun h32 => ?_)
        · refine TC.seq ?_
          refine TC.region ?_
          refine TL.callA rfl rfl Tryd.call33 (fun w hs => ratom_spec killedS hs) ?_
          rintro _ rfl
          refine TL.lit1 (atomC killedS) rfl elC Tryd.underlying22 (by decide) (by decide) encC_ok rfl (fun uK CK hCK => ?_)
          have hK := hCK
          refine TL.p (EvP.assign rfl) ?_
          refine TL.p (EvP.assign rfl) ?_
          refine TL.p (EvP.assign rfl) ?_
          refine TL.nil ?_
          refine TX.thenN rfl rfl ?_
          refine TC.ret ?_
          refine TX.thenR ?_
          refine TX.done rfl (Res.three rfl rfl rfl rfl) (fun w hs => Post1.mk (C := CK) hs ?_ (by repeat (first | exact Le.refl _ | exact Le.nil _ | refine Le.hit ?_ | refine Le.hit1 ?_ | refine Le.hit2 ?_ | refine Le.hit3 ?_ | refine Le.hit4 ?_ | refine Le.hit5 ?_ | refine Le.hit6 ?_ | refine Le.hit7 ?_ | refine Le.hit8 ?_ | refine Le.hit9 ?_ | refine Le.hit10 ?_ | refine Le.skip ?_)))
          rw [send_kill (by simp_all) (by omega) (by assumption)]
          exact ⟨_, rfl, Sl.els hK encC_ok (by simp)⟩
        · refine TC.skip ?_
          refine TX.thenN rfl rfl ?_
          refine TC.seq ?_
          refine TC.seq ?_
          refine TC.region ?_
          refine TL.p (EvP.move rfl) ?_
          refine TL.nil ?_
          refine TX.thenN rfl rfl ?_
          refine TC.cond rfl (fun h35 => ?_) (fun h35 => ?_)
          · refine TC.seq ?_
            refine TC.region ?_
            refine TL.p (EvP.move rfl) ?_
            refine TL.p (EvP.move rfl) ?_
            refine TL.callB rfl rfl Tryd.call13 (fun w hs => rexit_spec f (he.sub (by repeat (first | exact Le.refl _ | exact Le.nil _ | refine Le.hit ?_ | refine Le.hit1 ?_ | refine Le.hit2 ?_ | refine Le.hit3 ?_ | refine Le.hit4 ?_ | refine Le.hit5 ?_ | refine Le.hit6 ?_ | refine Le.hit7 ?_ | refine Le.hit8 ?_ | refine Le.hit9 ?_ | refine Le.hit10 ?_ | refine Le.skip ?_))) hsz hs) ?_
            rintro _ CM ⟨uM, rfl, hM⟩
            refine TL.p (EvP.move rfl) ?_
            refine TL.p (EvP.extract rfl rfl) ?_
            refine TL.p (EvP.extract rfl rfl) ?_
            refine TL.p (EvP.assign rfl) ?_
            refine TL.p (EvP.assign rfl) ?_
            refine TL.nil ?_
            refine TX.thenN rfl rfl ?_
            refine TC.seq ?_
            refine TC.region ?_
            refine TL.p (EvP.move rfl) ?_
            refine TL.p (EvP.assign rfl) ?_
            refine TL.p (EvP.assign rfl) ?_
            refine TL.p (EvP.assign rfl) ?_
            refine TL.nil ?_
            refine TX.thenN rfl rfl ?_
            refine TC.ret ?_
            refine TX.thenR ?_
            refine TX.done rfl (Res.three rfl rfl rfl rfl) (fun w hs => Post1.mk (C := CM) hs ?_ (by repeat (first | exact Le.refl _ | exact Le.nil _ | refine Le.hit ?_ | refine Le.hit1 ?_ | refine Le.hit2 ?_ | refine Le.hit3 ?_ | refine Le.hit4 ?_ | refine Le.hit5 ?_ | refine Le.hit6 ?_ | refine Le.hit7 ?_ | refine Le.hit8 ?_ | refine Le.hit9 ?_ | refine Le.hit10 ?_ | refine Le.skip ?_)))
            rw [send_trap (by simp_all) (by omega) (by simp_all) (by assumption)]
            exact ⟨_, rfl, Sl.els hM encC_ok (by simp)⟩
          · refine TC.skip ?_
            refine TX.thenN rfl rfl ?_
            refine TC.seq ?_
            refine TC.seq ?_
            refine TC.region ?_
            refine TL.p (EvP.move rfl) ?_
            refine TL.callA rfl rfl Tryd.call20 (fun w hs => rIs_spec (he.sub (by repeat (first | exact Le.refl _ | exact Le.nil _ | refine Le.hit ?_ | refine Le.hit1 ?_ | refine Le.hit2 ?_ | refine Le.hit3 ?_ | refine Le.hit4 ?_ | refine Le.hit5 ?_ | refine Le.hit6 ?_ | refine Le.hit7 ?_ | refine Le.hit8 ?_ | refine Le.hit9 ?_ | refine Le.hit10 ?_ | refine Le.skip ?_))) normalS hs) ?_
            rintro _ rfl
            refine TL.p (EvP.move rfl) ?_
            refine TL.bsplit 45 rfl (fun h45 => ?_) (fun h45 => ?_)
            · refine TL.gY rfl rfl rfl ?_
              refine TL.p (EvP.move rfl) ?_
              refine TL.gY rfl rfl rfl ?_
              refine TL.p (EvP.move rfl) ?_
              refine TL.gY rfl rfl rfl ?_
              refine TL.dec (EvP.ne rfl rfl) (fun h48 => ?_) (fun h48 => ?_)
              · refine TL.p (EvP.pickT rfl rfl) ?_
                refine TL.nil ?_
                refine TX.thenN rfl rfl ?_
                refine TC.ctrue rfl ?_
                refine TC.seq ?_
                refine TC.region ?_
                refine TL.p (EvP.assign rfl) ?_
                refine TL.p (EvP.assign rfl) ?_
                refine TL.p (EvP.assign rfl) ?_
                refine TL.nil ?_
                refine TX.thenN rfl rfl ?_
                refine TC.ret ?_
                refine TX.thenR ?_
                refine TX.done rfl (Res.three rfl rfl rfl rfl) (fun w hs => Post1.mk (C := []) hs ?_ (Le.trans Le.nilC (by repeat (first | exact Le.refl _ | exact Le.nil _ | refine Le.hit ?_ | refine Le.hit1 ?_ | refine Le.hit2 ?_ | refine Le.hit3 ?_ | refine Le.hit4 ?_ | refine Le.hit5 ?_ | refine Le.hit6 ?_ | refine Le.hit7 ?_ | refine Le.hit8 ?_ | refine Le.hit9 ?_ | refine Le.hit10 ?_ | refine Le.skip ?_))))
                rw [send_nothing (by simp_all) (by omega) (by simp_all) (by assumption) (by simp_all)]
                exact ⟨_, rfl, Sl.els Sl.nil encC_ok (by simp)⟩
              · refine TL.p (EvP.pickT rfl rfl) ?_
                refine TL.nil ?_
                refine TX.thenN rfl rfl ?_
                refine TC.cfalse rfl ?_
                refine TC.skip ?_
                refine TX.thenN rfl rfl ?_
                refine TC.seq ?_
                refine TC.region ?_
                refine TL.p (EvP.move rfl) ?_
                refine TL.p (EvP.assign rfl) ?_
                refine TL.p (EvP.assign rfl) ?_
                refine TL.p (EvP.assign rfl) ?_
                refine TL.nil ?_
                refine TX.thenN rfl rfl ?_
                refine TC.ret ?_
                refine TX.done rfl (Res.three rfl rfl rfl rfl) (fun w hs => Post1.mk (C := []) hs ?_ (Le.trans Le.nilC (by repeat (first | exact Le.refl _ | exact Le.nil _ | refine Le.hit ?_ | refine Le.hit1 ?_ | refine Le.hit2 ?_ | refine Le.hit3 ?_ | refine Le.hit4 ?_ | refine Le.hit5 ?_ | refine Le.hit6 ?_ | refine Le.hit7 ?_ | refine Le.hit8 ?_ | refine Le.hit9 ?_ | refine Le.hit10 ?_ | refine Le.skip ?_))))
                rw [send_dies (by simp_all) (by omega) (by simp_all) (by assumption) (by simp_all)]
                exact ⟨_, rfl, he.sub (Le.skip (Le.refl _))⟩
            · refine TL.gN rfl rfl rfl ?_
              refine TL.gN rfl rfl rfl ?_
              refine TL.gN rfl rfl rfl ?_
              refine TL.p (EvP.pickF rfl rfl) ?_
              refine TL.nil ?_
              refine TX.thenN rfl rfl ?_
              refine TC.cfalse rfl ?_
              refine TC.skip ?_
              refine TX.thenN rfl rfl ?_
              refine TC.seq ?_
              refine TC.region ?_
              refine TL.p (EvP.move rfl) ?_
              refine TL.p (EvP.assign rfl) ?_
              refine TL.p (EvP.assign rfl) ?_
              refine TL.p (EvP.assign rfl) ?_
              refine TL.nil ?_
              refine TX.thenN rfl rfl ?_
              refine TC.ret ?_
              refine TX.done rfl (Res.three rfl rfl rfl rfl) (fun w hs => Post1.mk (C := []) hs ?_ (Le.trans Le.nilC (by repeat (first | exact Le.refl _ | exact Le.nil _ | refine Le.hit ?_ | refine Le.hit1 ?_ | refine Le.hit2 ?_ | refine Le.hit3 ?_ | refine Le.hit4 ?_ | refine Le.hit5 ?_ | refine Le.hit6 ?_ | refine Le.hit7 ?_ | refine Le.hit8 ?_ | refine Le.hit9 ?_ | refine Le.hit10 ?_ | refine Le.skip ?_))))
              rw [send_dies (by simp_all) (by omega) (by simp_all) (by assumption) (by simp_all)]
              exact ⟨_, rfl, he.sub (Le.skip (Le.refl _))⟩

theorem same_spec {w0 w : World} {H : List Chunk} {u v : Value} {xs : List Cl} (he1 : Els (fun w => St w0 w H) u 3 Cl.enc 57 xs) (he2 : Els (fun w => St w0 w H) v 3 Cl.enc 57 xs) (hsz : xs.length < 4611686018427387904) (hst : St w0 w H) : Calls Tryd.prog 10 #[u, v] w (Post0 w0 H fun u => u = .bool true) := by
  obtain ⟨⟨a1, cap1, rfl⟩, h1⟩ := he1
  obtain ⟨⟨a2, cap2, rfl⟩, h2⟩ := he2
  refine calls_of (args := [_, _]) Tryd.func10 rfl Tryd.ntmps10 hst ?_
  refine TC.seq ?_
  refine TC.region ?_
  refine TL.p (EvP.assign rfl) ?_
  refine TL.nil ?_
  refine TX.thenN rfl rfl ?_
  refine TC.seq ?_
  refine TC.seq ?_
  refine TC.region ?_
  refine TL.p (EvP.move rfl) ?_
  refine TL.p (EvP.lenS Tryd.runUnderlying22 rfl) ?_
  refine TL.p (EvP.move rfl) ?_
  refine TL.p (EvP.lenS Tryd.runUnderlying22 rfl) ?_
  refine TL.p (EvP.isF (EvP.ne rfl rfl) (by simp)) ?_
  refine TL.nil ?_
  refine TX.thenN rfl rfl ?_
  refine TC.cfalse rfl ?_
  refine TC.skip ?_
  refine TX.thenN rfl rfl ?_
  refine TC.seq ?_
  refine TC.seq ?_
  refine TC.region ?_
  refine TL.p (EvP.assign rfl) ?_
  refine TL.nil ?_
  refine TX.thenN rfl rfl ?_
  refine TC.block ?_
  refine TC.loop (ι := Nat) (fun i => [(0, .slice a1 xs.length cap1), (1, .slice a2 xs.length cap2), (5, .int .i64 i)]) (fun i => H) (fun i => i ≤ xs.length) (fun i => xs.length - i) (0) (Nat.zero_le _) ⟨rfl, rfl, rfl, trivial⟩ (by repeat (first | exact Le.refl _ | exact Le.nil _ | refine Le.hit ?_ | refine Le.hit1 ?_ | refine Le.hit2 ?_ | refine Le.hit3 ?_ | refine Le.hit4 ?_ | refine Le.hit5 ?_ | refine Le.hit6 ?_ | refine Le.hit7 ?_ | refine Le.hit8 ?_ | refine Le.hit9 ?_ | refine Le.hit10 ?_ | refine Le.skip ?_)) ?_
  rintro i hi
  change TC _ _ [(0, .slice a1 xs.length cap1), (1, .slice a2 xs.length cap2), (5, .int .i64 i)] (H) _
  refine TC.seq ?_
  refine TC.seq ?_
  refine TC.region ?_
  refine TL.p (EvP.move rfl) ?_
  refine TL.p (EvP.move rfl) ?_
  refine TL.p (EvP.lenS Tryd.runUnderlying22 rfl) ?_
  refine TL.dec (EvP.lt rfl rfl) (fun h14 => ?_) (fun h14 => ?_)
  · refine TL.nil ?_
    refine TX.thenN rfl rfl ?_
    refine TC.ctrue rfl ?_
    refine TC.skip ?_
    refine TX.thenN rfl rfl ?_
    refine TC.seq ?_
    refine TC.block ?_
    refine TC.seq ?_
    refine TC.drawn (listed := #[false, false, false, false, false, false, false, false, false]) 9 (fun w => St w0 w H) rfl rfl rfl rfl (fun _ hs => hs) ?_
    refine TR.take 0 rfl (by kernel_rfl) (by kernel_rfl) (by kernel_rfl) (EvP.r (by exact EvP.move rfl)) (l' := #[true, false, false, false, false, false, false, false, false]) rfl ?_
    refine TR.take 1 rfl (by kernel_rfl) (by kernel_rfl) (by kernel_rfl) (EvP.r (by exact EvP.move rfl)) (l' := #[true, true, false, false, false, false, false, false, false]) rfl ?_
    have hlt : i < xs.length := by omega
    obtain ⟨x, hx⟩ : ∃ x, xs[i]? = some x := ⟨_, List.getElem?_eq_getElem hlt⟩
    obtain ⟨c1, o1, n1, k1, l1, _, _, q1, hj1, hb1, hc1⟩ := h1 i x hx
    obtain ⟨c2, o2, n2, k2, l2, _, _, q2, hj2, hb2, hc2⟩ := h2 i x hx
    cases q1
    cases q2
    refine TR.take 2 rfl (by kernel_rfl) (by kernel_rfl) (by kernel_rfl) (EvP.r (by exact EvP.ix (j := (i : Int)) Tryd.runUnderlying22 Tryd.sizeOf57 rfl rfl ⟨by omega, by omega⟩)) (l' := #[true, true, true, false, false, false, false, false, false]) rfl ?_
    refine TR.take 3 rfl (by kernel_rfl) (by kernel_rfl) (by kernel_rfl) (EvR.loadN (vs := [_, _, _]) rfl Tryd.isAgg57 Tryd.sizeOf57 hb1 hc1) (l' := #[true, true, true, true, false, false, false, false, false]) rfl ?_
    refine TR.take 4 rfl (by kernel_rfl) (by kernel_rfl) (by kernel_rfl) (EvP.r (by exact EvP.move rfl)) (l' := #[true, true, true, true, true, false, false, false, false]) rfl ?_
    refine TR.take 5 rfl (by kernel_rfl) (by kernel_rfl) (by kernel_rfl) (EvP.r (by exact EvP.move rfl)) (l' := #[true, true, true, true, true, true, false, false, false]) rfl ?_
    refine TR.take 6 rfl (by kernel_rfl) (by kernel_rfl) (by kernel_rfl) (EvP.r (by exact EvP.ix (j := (i : Int)) Tryd.runUnderlying22 Tryd.sizeOf57 rfl rfl ⟨by omega, by omega⟩)) (l' := #[true, true, true, true, true, true, true, false, false]) rfl ?_
    refine TR.take 7 rfl (by kernel_rfl) (by kernel_rfl) (by kernel_rfl) (EvR.loadN (vs := [_, _, _]) rfl Tryd.isAgg57 Tryd.sizeOf57 hb2 hc2) (l' := #[true, true, true, true, true, true, true, true, false]) rfl ?_
    refine TR.take 8 rfl (by kernel_rfl) (by kernel_rfl) (by kernel_rfl) (EvP.r (neC x)) (l' := #[true, true, true, true, true, true, true, true, true]) rfl ?_
    refine TR.done (by kernel_rfl) ?_
    refine TX.thenN rfl rfl ?_
    refine TC.cfalse rfl ?_
    refine TC.skip ?_
    refine TX.blkN ?_
    refine TX.thenN rfl rfl ?_
    refine TC.region ?_
    refine TL.p (EvP.move rfl) ?_
    refine TL.p (EvP.add rfl rfl (by omega)) ?_
    refine TL.p (EvP.assign rfl) ?_
    refine TL.nil ?_
    refine TX.back (i + 1) (by omega) (by omega) ⟨rfl, rfl, rfl, trivial⟩ (by repeat (first | exact Le.refl _ | exact Le.nil _ | refine Le.hit ?_ | refine Le.hit1 ?_ | refine Le.hit2 ?_ | refine Le.hit3 ?_ | refine Le.hit4 ?_ | refine Le.hit5 ?_ | refine Le.hit6 ?_ | refine Le.hit7 ?_ | refine Le.hit8 ?_ | refine Le.hit9 ?_ | refine Le.hit10 ?_ | refine Le.skip ?_))
  · refine TL.nil ?_
    refine TX.thenN rfl rfl ?_
    refine TC.cfalse rfl ?_
    refine TC.exit ?_
    refine TX.thenE ?_
    refine TX.thenE ?_
    refine TX.blkH ?_
    refine TX.thenN rfl rfl ?_
    refine TC.seq ?_
    refine TC.region ?_
    refine TL.p (EvP.assign rfl) ?_
    refine TL.nil ?_
    refine TX.thenN rfl rfl ?_
    refine TC.ret ?_
    refine TX.done rfl (Res.one rfl rfl) (fun w hs => Post0.mk hs ?_ (by repeat (first | exact Le.refl _ | exact Le.nil _ | refine Le.hit ?_ | refine Le.hit1 ?_ | refine Le.hit2 ?_ | refine Le.hit3 ?_ | refine Le.hit4 ?_ | refine Le.hit5 ?_ | refine Le.hit6 ?_ | refine Le.hit7 ?_ | refine Le.hit8 ?_ | refine Le.hit9 ?_ | refine Le.hit10 ?_ | refine Le.skip ?_)))
    rfl

theorem lent_spec {w0 w : World} {R : List Chunk} {v : Value} {xs : List Cl} (he : Els (fun w => St w0 w R) v 3 Cl.enc 57 xs) (hsz : xs.length ≤ 4398046511000) (hst : St w0 w R) : Calls Tryd.prog 7 #[v] w (Post1 w0 R fun u C => Mk u xs C) := by
  obtain ⟨⟨a, cap, rfl⟩, _⟩ := id he
  refine calls_of (args := [_]) Tryd.func7 rfl Tryd.ntmps7 hst ?_
  refine TC.seq ?_
  refine TC.region ?_
  refine TL.p (EvP.assign rfl) ?_
  refine TL.nil ?_
  refine TX.thenN rfl rfl ?_
  refine TC.seq ?_
  refine TC.region ?_
  refine TL.p (EvP.assign rfl) ?_
  refine TL.nil ?_
  refine TX.thenN rfl rfl ?_
  refine TC.seq ?_
  refine TC.region ?_
  refine TL.p (EvP.move rfl) ?_
  refine TL.p (EvP.move rfl) ?_
  refine TL.le Le.nilC ?_
  refine TL.append (C := []) (xs := []) rfl rfl elC Tryd.underlying22 encC_ok Sl.nil (SrcR.els Tryd.underlying22 encC_ok (by decide) (he.sub (by repeat (first | exact Le.refl _ | exact Le.nil _ | refine Le.hit ?_ | refine Le.hit1 ?_ | refine Le.hit2 ?_ | refine Le.hit3 ?_ | refine Le.hit4 ?_ | refine Le.hit5 ?_ | refine Le.hit6 ?_ | refine Le.hit7 ?_ | refine Le.hit8 ?_ | refine Le.hit9 ?_ | refine Le.hit10 ?_ | refine Le.skip ?_)))) (by simp only [List.length_nil]; omega) (by decide) (fun v1 C1 hC1 => ?_)
  refine TL.p (EvP.assign rfl) ?_
  refine TL.nil ?_
  refine TX.thenN rfl rfl ?_
  refine TC.seq ?_
  refine TC.region ?_
  refine TL.p (EvP.move rfl) ?_
  refine TL.p (EvP.buildS (is := [2]) (xs := [_]) rfl Tryd.runUnderlying57 Tryd.zeroValue57 rfl (.cons Tryd.sizeOf3 (.cons Tryd.sizeOf2 (.cons Tryd.sizeOf9 .nil))) rfl rfl rfl) ?_
  refine TL.lit1 (markC) rfl elC Tryd.underlying22 (by decide) (by decide) encC_ok rfl (fun u1 D1 hD1 => ?_)
  refine TL.le (Le.hit1 (Le.refl _)) ?_
  refine TL.append rfl rfl elC Tryd.underlying22 encC_ok hC1 (SrcR.sl Tryd.underlying22 encC_ok hD1 (by simp)) (by simp only [List.nil_append, List.length_singleton]; omega) (by decide) (fun v2 C2 hC2 => ?_)
  obtain ⟨p2, cap2, hsp2, hcp2, hSl2, rfl⟩ := mk_open (by simpa using hC2)
  refine TL.p (EvP.assign rfl) ?_
  refine TL.nil ?_
  refine TX.thenN rfl rfl ?_
  refine TC.seq ?_
  refine TC.region ?_
  refine TL.p (EvP.move rfl) ?_
  refine TL.p (EvP.move rfl) ?_
  refine TL.p (EvP.lenS Tryd.runUnderlying22 rfl) ?_
  refine TL.p (EvP.sliceH Tryd.runUnderlying22 Tryd.sizeOf57 rfl rfl ⟨by omega, by omega⟩ hsp2) ?_
  refine TL.p (EvP.assign rfl) ?_
  refine TL.nil ?_
  refine TX.thenN rfl rfl ?_
  refine TC.ret ?_
  refine TX.done rfl (Res.one rfl rfl) (fun w hs => Post1.mk (C := C2) hs ?_ (by repeat (first | exact Le.refl _ | exact Le.nil _ | refine Le.hit ?_ | refine Le.hit1 ?_ | refine Le.hit2 ?_ | refine Le.hit3 ?_ | refine Le.hit4 ?_ | refine Le.hit5 ?_ | refine Le.hit6 ?_ | refine Le.hit7 ?_ | refine Le.hit8 ?_ | refine Le.hit9 ?_ | refine Le.hit10 ?_ | refine Le.skip ?_)))
  exact ⟨p2, cap2, rfl, hcp2, hsp2, hSl2⟩

theorem kept_spec {w0 w : World} {R : List Chunk} {u v : Value} {xs : List Cl} {C : Chunk} (hM : Mk u xs C) (he : Els (fun w => St w0 w (C :: R)) v 3 Cl.enc 57 xs) (hsz : xs.length ≤ 4398046511000) (hst : St w0 w (C :: R)) : Calls Tryd.prog 16 #[u, v] w (Post0 w0 (C :: R) fun u => u = .bool true) := by
  obtain ⟨p, cap, rfl, hcp, hsp, hSl⟩ := id hM
  obtain ⟨⟨a2, cap2, rfl⟩, _⟩ := id he
  refine calls_of (args := [_, _]) Tryd.func16 rfl Tryd.ntmps16 hst ?_
  refine TC.seq ?_
  refine TC.region ?_
  refine TL.p (EvP.assign rfl) ?_
  refine TL.nil ?_
  refine TX.thenN rfl rfl ?_
  refine TC.seq ?_
  refine TC.region ?_
  refine TL.p (EvP.move rfl) ?_
  refine TL.p (EvP.move rfl) ?_
  refine TL.callA rfl rfl Tryd.call10 (fun w hs => same_spec (hM.els (by simp)) he (by omega) hs) ?_
  rintro _ rfl
  refine TL.p (EvP.move rfl) ?_
  refine TL.gY rfl rfl rfl ?_
  refine TL.p (EvP.move rfl) ?_
  refine TL.gY rfl rfl rfl ?_
  refine TL.p (EvP.move rfl) ?_
  refine TL.gY rfl rfl rfl ?_
  refine TL.p (EvP.lenS Tryd.runUnderlying22 rfl) ?_
  refine TL.gY rfl rfl rfl ?_
  refine TL.p (EvP.add rfl rfl (by omega)) ?_
  refine TL.gY rfl rfl rfl ?_
  refine TL.p (EvP.sliceH Tryd.runUnderlying22 Tryd.sizeOf57 rfl rfl ⟨by omega, by omega⟩ hsp) ?_
  refine TL.gY rfl rfl rfl ?_
  refine TL.p (EvP.move rfl) ?_
  refine TL.gY rfl rfl rfl ?_
  refine TL.p (EvP.lenS Tryd.runUnderlying22 rfl) ?_
  refine TL.gY rfl rfl rfl ?_
  refine TL.elem (hSl.el encC_ok (j := xs.length) (x := markC) (by simp) (by simp)) Tryd.runUnderlying22 Tryd.sizeOf57 rfl rfl (fun bE oE lE _ _ hE hcE => ?_)
  refine TL.gY rfl rfl rfl ?_
  refine TL.p (EvP.fa rfl Tryd.runUnderlying57 rfl Tryd.sizeOf9 rfl) ?_
  refine TL.gY rfl rfl rfl ?_
  refine TL.r (EvR.load rfl Tryd.isAgg9 hE hcE.2.2.1) ?_
  refine TL.gY rfl rfl rfl ?_
  refine TL.p (EvP.isT (EvP.eqS rfl rfl) rfl) ?_
  refine TL.p (EvP.pickT rfl rfl) ?_
  refine TL.p (EvP.assign rfl) ?_
  refine TL.nil ?_
  refine TX.thenN rfl rfl ?_
  refine TC.ret ?_
  refine TX.done rfl (Res.one rfl rfl) (fun w hs => Post0.mk hs ?_ (by repeat (first | exact Le.refl _ | exact Le.nil _ | refine Le.hit ?_ | refine Le.hit1 ?_ | refine Le.hit2 ?_ | refine Le.hit3 ?_ | refine Le.hit4 ?_ | refine Le.hit5 ?_ | refine Le.hit6 ?_ | refine Le.hit7 ?_ | refine Le.hit8 ?_ | refine Le.hit9 ?_ | refine Le.hit10 ?_ | refine Le.skip ?_)))
  rfl

theorem spoil_spec {w0 w : World} {R : List Chunk} {v : Value} {xs : List Cl} {C : Chunk} (hv : Sl 57 3 Cl.enc v xs C) (hsz : xs.length ≤ 4398046511000) (hst : St w0 w (C :: R)) : Calls Tryd.prog 11 #[v] w (Post0 w0 R fun u => u = .tuple #[]) := by
  obtain ⟨a, cap, rfl, _, _⟩ := id hv.len
  refine calls_of (args := [_]) Tryd.func11 rfl Tryd.ntmps11 hst ?_
  refine TC.seq ?_
  refine TC.seq ?_
  refine TC.region ?_
  refine TL.p (EvP.assign rfl) ?_
  refine TL.nil ?_
  refine TX.thenN rfl rfl ?_
  refine TC.block ?_
  refine TC.loop (ι := Nat × List Cl × Chunk) (fun (i, ys, CT) => [(0, .slice a xs.length cap), (2, .int .i64 i)]) (fun (i, ys, CT) => CT :: R) (fun (i, ys, CT) => i ≤ xs.length ∧ ys.length = xs.length ∧ Sl 57 3 Cl.enc (.slice a xs.length cap) ys CT) (fun (i, ys, CT) => xs.length - i) ((0, xs, C)) (⟨Nat.zero_le _, rfl, hv⟩) ⟨rfl, rfl, trivial⟩ (by repeat (first | exact Le.refl _ | exact Le.nil _ | refine Le.hit ?_ | refine Le.hit1 ?_ | refine Le.hit2 ?_ | refine Le.hit3 ?_ | refine Le.hit4 ?_ | refine Le.hit5 ?_ | refine Le.hit6 ?_ | refine Le.hit7 ?_ | refine Le.hit8 ?_ | refine Le.hit9 ?_ | refine Le.hit10 ?_ | refine Le.skip ?_)) ?_
  rintro ⟨i, ys, CT⟩ ⟨hi, hlen, hys⟩
  change TC _ _ [(0, .slice a xs.length cap), (2, .int .i64 i)] (CT :: R) _
  refine TC.seq ?_
  refine TC.seq ?_
  refine TC.region ?_
  refine TL.p (EvP.move rfl) ?_
  refine TL.p (EvP.move rfl) ?_
  refine TL.p (EvP.lenS Tryd.runUnderlying22 rfl) ?_
  refine TL.dec (EvP.lt rfl rfl) (fun h6 => ?_) (fun h6 => ?_)
  · refine TL.nil ?_
    refine TX.thenN rfl rfl ?_
    refine TC.ctrue rfl ?_
    refine TC.skip ?_
    refine TX.thenN rfl rfl ?_
    refine TC.seq ?_
    refine TC.block ?_
    refine TC.region ?_
    refine TL.p (EvP.move rfl) ?_
    refine TL.p (EvP.move rfl) ?_
    refine TL.p (EvP.buildS (is := [0, 1, 2]) (xs := [_, _, _]) rfl Tryd.runUnderlying57 Tryd.zeroValue57 rfl (.cons Tryd.sizeOf3 (.cons Tryd.sizeOf2 (.cons Tryd.sizeOf9 .nil))) rfl rfl rfl) ?_
    refine TL.elemW hys encC_ok (j := i) (by omega) Tryd.runUnderlying22 Tryd.sizeOf57 rfl rfl (fun bE oE lE hCE hWE => ?_)
    subst hCE
    obtain ⟨l2, hS2, hys2⟩ := hWE ⟨99, 99, spoiltS⟩
    refine TL.u (EvU.store rfl rfl Tryd.sizeOf57 rfl rfl rfl rfl (by repeat (first | exact Has.hd | refine Has.tlb ?_ | refine Has.tlc ?_)) hS2 (by repeat (first | exact Upd.hd | apply Upd.tlb | apply Upd.tlc))) ?_
    refine TL.nil ?_
    refine TX.blkN ?_
    refine TX.thenN rfl rfl ?_
    refine TC.region ?_
    refine TL.p (EvP.move rfl) ?_
    refine TL.p (EvP.add rfl rfl (by omega)) ?_
    refine TL.p (EvP.assign rfl) ?_
    refine TL.nil ?_
    refine TX.back ((i + 1, ys.set i ⟨99, 99, spoiltS⟩, [(bE, .cells l2.toArray 57 (0, 0))])) (⟨by omega, by rw [List.length_set]; exact hlen, hys2⟩) (by simp only; omega) ⟨rfl, rfl, trivial⟩ (by repeat (first | exact Le.refl _ | exact Le.nil _ | refine Le.hit ?_ | refine Le.hit1 ?_ | refine Le.hit2 ?_ | refine Le.hit3 ?_ | refine Le.hit4 ?_ | refine Le.hit5 ?_ | refine Le.hit6 ?_ | refine Le.hit7 ?_ | refine Le.hit8 ?_ | refine Le.hit9 ?_ | refine Le.hit10 ?_ | refine Le.skip ?_))
  · refine TL.nil ?_
    refine TX.thenN rfl rfl ?_
    refine TC.cfalse rfl ?_
    refine TC.exit ?_
    refine TX.thenE ?_
    refine TX.thenE ?_
    refine TX.blkH ?_
    refine TX.thenN rfl rfl ?_
    refine TC.seq ?_
    refine TC.region ?_
    refine TL.p (EvP.move rfl) ?_
    refine TL.p (EvP.buildS (is := [2]) (xs := [_]) rfl Tryd.runUnderlying57 Tryd.zeroValue57 rfl (.cons Tryd.sizeOf3 (.cons Tryd.sizeOf2 (.cons Tryd.sizeOf9 .nil))) rfl rfl rfl) ?_
    refine TL.lit1 (⟨0, 0, behS⟩) rfl elC Tryd.underlying22 (by decide) (by decide) encC_ok rfl (fun u1 D1 hD1 => ?_)
    refine TL.le (Le.hit1 (Le.refl _)) ?_
    refine TL.append rfl rfl elC Tryd.underlying22 encC_ok hys (SrcR.sl Tryd.underlying22 encC_ok hD1 (by simp)) (by simp only [List.length_singleton]; omega) (by decide) (fun v2 C2 hC2 => ?_)
    obtain ⟨p2, cap2, hq2, _, _⟩ := hC2.len
    simp only [List.length_append, List.length_singleton] at hq2
    subst hq2
    refine TL.p (EvP.assign rfl) ?_
    refine TL.nil ?_
    refine TX.thenN rfl rfl ?_
    refine TC.region ?_
    refine TL.p (EvP.move rfl) ?_
    refine TL.p (EvP.move rfl) ?_
    refine TL.p (EvP.lenS Tryd.runUnderlying22 rfl) ?_
    refine TL.p (EvP.sub rfl rfl (by omega)) ?_
    refine TL.elemW hC2 encC_ok (j := ys.length) (by simp) Tryd.runUnderlying22 Tryd.sizeOf57 rfl (congrArg (fun z => some (Value.int IntKind.i64 z)) (by omega)) (fun bF oF lF hCF hWF => ?_)
    subst hCF
    obtain ⟨l3, hS3, _⟩ := hWF ⟨0, 0, []⟩
    refine TL.p (EvP.fa rfl Tryd.runUnderlying57 rfl Tryd.sizeOf2 rfl) ?_
    refine TL.u (EvU.store (vs := [.int .i64 1]) rfl rfl Tryd.sizeOf2 rfl rfl rfl rfl (by repeat (first | exact Has.hd | refine Has.tlb ?_ | refine Has.tlc ?_)) (setLs1 hS3) (by repeat (first | exact Upd.hd | apply Upd.tlb | apply Upd.tlc))) ?_
    refine TL.nil ?_
    refine TX.doneN rfl (Res.none rfl) (fun w hs => Post0.mk hs rfl (by repeat (first | exact Le.refl _ | exact Le.nil _ | refine Le.hit ?_ | refine Le.hit1 ?_ | refine Le.hit2 ?_ | refine Le.hit3 ?_ | refine Le.hit4 ?_ | refine Le.hit5 ?_ | refine Le.hit6 ?_ | refine Le.hit7 ?_ | refine Le.hit8 ?_ | refine Le.hit9 ?_ | refine Le.hit10 ?_ | refine Le.skip ?_)))
end Go.Proofs.YtdbpandamnkpdaaDoor
