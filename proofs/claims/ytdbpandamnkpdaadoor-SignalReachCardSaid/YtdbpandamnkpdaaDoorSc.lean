/-
  Messages: atoms, tuples, Exit, Down; what is wrong of them.
-/
import Derived.Test.YtdbpandamnkpdaaDoorSb
set_option linter.unusedSimpArgs false
set_option linter.unusedVariables false
set_option maxRecDepth 100000
namespace Go.Proofs.YtdbpandamnkpdaaDoor
open Go Go.RowKit Go.Lib

theorem elC : ElT Tryd.prog 57 3 32 := ElT.of Tryd.typeInfo57 rfl rfl rfl rfl
def atomC (s : Str) : Cl := ⟨2, 0, s⟩
def isA (xs : List Cl) (s : Str) : Bool := decide (xs = [atomC s])
theorem isA_one {x : Cl} {s : Str} : isA [x] s = decide (x = atomC s) := by unfold isA; simp
theorem isA_no {xs : List Cl} {s : Str} (h : ¬ (xs.length : Int) = 1) : isA xs s = false := by
  unfold isA
  rw [decide_eq_false_iff_not]
  rintro rfl
  simp at h
theorem one_of {xs : List Cl} (h : xs.length = 1) : ∃ x, xs = [x] := List.length_eq_one_iff.1 h
theorem eqCl {Lf : Fl} {t u : Nat} {ty ty' : TypeId} (x b : Cl) (hx : ev Lf (.tmp t) = some x.v := by rfl) (hb : ev Lf (.tmp u) = some b.v := by rfl) : EvP Tryd.prog (.binOp .eql 57 (.tmp t) (.tmp u) ty') ty Lf (.bool (decide (x = b))) := by
  refine EvP.eqStruct (xs := x.enc) (ys := b.enc) hx hb Tryd.underlying57 (by kernel_rfl) Tryd.eqGuardType57
    (.cons (by decide) Tryd.isAgg3 rfl rfl (eqIntIn Tryd.runUnderlying3) (.cons (by decide) Tryd.isAgg2 rfl rfl (eqIntIn Tryd.runUnderlying2) (.cons (by decide) Tryd.isAgg9 rfl rfl (eqStrIn Tryd.runUnderlying9) .nil))) ?_
  rw [Bool.eq_iff_iff]
  cases x; cases b
  simp [Cl.mk.injEq]
def limit : Str := [115, 121, 115, 116, 101, 109, 95, 108, 105, 109, 105, 116]
def exitS : Str := [69, 88, 73, 84]
def downS : Str := [68, 79, 87, 78]
def processS : Str := [112, 114, 111, 99, 101, 115, 115]
def msg (head xs : List Cl) : List Cl := if 1024 < head.length + xs.length then head ++ [atomC limit] else head ++ xs
theorem msg_lim {head xs : List Cl} (h : 1024 < head.length + xs.length) : msg head xs = head ++ [atomC limit] := by unfold msg; rw [if_pos h]
theorem msg_ok {head xs : List Cl} (h : ¬ 1024 < head.length + xs.length) : msg head xs = head ++ xs := by unfold msg; rw [if_neg h]
def exitM (p : Int) (xs : List Cl) : List Cl × Int := if okPid p = false then ([], 1) else if (rightE xs).1 ≠ 0 then ([], (rightE xs).1) else (msg [⟨5, 3, []⟩, atomC exitS, ⟨4, p, []⟩] xs, 0)
def downM (r p : Int) (xs : List Cl) : List Cl × Int := if r < 1 ∨ 281474976710656 < r ∨ okPid p = false then ([], 1) else if (rightE xs).1 ≠ 0 then ([], (rightE xs).1) else (msg [⟨5, 5, []⟩, atomC downS, ⟨3, r, []⟩, atomC processS, ⟨4, p, []⟩] xs, 0)
section
variable {p r : Int} {xs : List Cl}
theorem exit_pid (h : okPid p = false) : exitM p xs = ([], 1) := by unfold exitM; rw [if_pos h]
theorem exit_bad (h : okPid p = true) (h2 : (rightE xs).1 ≠ 0) : exitM p xs = ([], (rightE xs).1) := by unfold exitM; rw [if_neg (by simp [h]), if_pos h2]
theorem exit_ok (h : okPid p = true) (h2 : (rightE xs).1 = 0) : exitM p xs = (msg [⟨5, 3, []⟩, atomC exitS, ⟨4, p, []⟩] xs, 0) := by unfold exitM; rw [if_neg (by simp [h]), if_neg (by omega)]
theorem down_pid (h : r < 1 ∨ 281474976710656 < r ∨ okPid p = false) : downM r p xs = ([], 1) := by unfold downM; rw [if_pos h]
theorem down_bad (h : ¬ r < 1 ∧ ¬ 281474976710656 < r ∧ okPid p = true) (h2 : (rightE xs).1 ≠ 0) : downM r p xs = ([], (rightE xs).1) := by unfold downM; rw [if_neg (by simp [h]), if_pos h2]
theorem down_ok (h : ¬ r < 1 ∧ ¬ 281474976710656 < r ∧ okPid p = true) (h2 : (rightE xs).1 = 0) : downM r p xs = (msg [⟨5, 5, []⟩, atomC downS, ⟨3, r, []⟩, atomC processS, ⟨4, p, []⟩] xs, 0) := by unfold downM; rw [if_neg (by simp [h]), if_neg (by omega)]
theorem right_len (h : (rightE xs).1 = 0) : xs.length ≤ 1024 := by
  unfold rightE at h
  by_cases h1 : xs.length = 0
  · omega
  · rw [if_neg h1] at h
    by_cases h2 : 1024 < xs.length
    · rw [if_pos h2] at h; simp at h
    · omega
end
theorem TL.litn {c : Cx} {ops Q d pos aft rest} {L : Fl} {H : List Chunk} {ty t e : TypeId} {bytes m n : Nat} {α : Type} {enc : α → List Value} {os : List Operand} {vs : List Value} {xs : List α} (hos : evs L os = some vs) (het : ElT c.P e n bytes) (ht : c.P.underlying t = some (.slice e)) (hn : 0 < n)
    (hlen : vs.length = m) (hxl : xs.length = m) (hv : ∀ v ∈ vs, v.cells.size = n) (hvx : vs.flatMap (fun v => v.cells.toList) = rowOf enc xs) (hm : m * n ≤ 16777216)
    (k : ∀ u D, Sl e n enc u xs D → TL c ops Q rest ((d, u) :: L) (D :: H)) (hd : Nat.blt d c.N = true := by rfl) :
    TL c ops Q (⟨some d, .buildSlice t m ((List.range' 0 m).zip os).toArray, ty, pos, aft, none⟩ :: rest) L H :=
  TL.w (EvW.buildSlice (P := c.P) (ty := ty) (w0 := c.w0) (H := H) (enc := enc) xs hos het ht hn hlen hxl hv hvx hm) (by rintro _ _ ⟨b, rfl, rfl⟩; exact k _ _ (Sl.lit xs)) hd
theorem TL.lit0 {c : Cx} {ops Q d pos aft rest} {L : Fl} {H : List Chunk} {ty t e : TypeId} {bytes n : Nat} (het : ElT c.P e (n + 1) bytes) (ht : c.P.underlying t = some (.slice e))
    (k : ∀ u D, Sl e (n + 1) Cl.enc u ([] : List Cl) D → TL c ops Q rest ((d, u) :: L) (D :: H)) (hd : Nat.blt d c.N = true := by rfl) :
    TL c ops Q (⟨some d, .buildSlice t 0 #[], ty, pos, aft, none⟩ :: rest) L H :=
  TL.litn (enc := Cl.enc) (os := []) (vs := []) (xs := []) rfl het ht (by omega) rfl rfl (by simp) rfl (by omega) k hd

theorem pid_spec {w0 w : World} {R : List Chunk} (n : Int) (hst : St w0 w R) : Calls Tryd.prog 26 #[.int .i64 n] w (Post0 w0 R fun v => v = .bool (okPid n)) := by
  refine calls_of (args := [_]) Tryd.func26 rfl Tryd.ntmps26 hst ?_
  refine TC.seq ?_
  refine TC.region ?_
  refine TL.p (EvP.assign rfl) ?_
  refine TL.nil ?_
  refine TX.thenN rfl rfl ?_
  refine TC.seq ?_
  refine TC.region ?_
  refine TL.p (EvP.move rfl) ?_
  refine TL.dec (EvP.ge rfl rfl) (fun h4 => ?_) (fun h4 => ?_)
  · refine TL.p (EvP.move rfl) ?_
    refine TL.gY rfl rfl rfl ?_
    refine TL.p (EvP.move rfl) ?_
    refine TL.gY rfl rfl rfl ?_
    refine TL.p (EvP.le rfl rfl) ?_
    refine TL.p (EvP.pickT rfl rfl) ?_
    refine TL.p (EvP.assign rfl) ?_
    refine TL.nil ?_
    refine TX.thenN rfl rfl ?_
    refine TC.ret ?_
    refine TX.done rfl (Res.one rfl rfl) (fun w hs => Post0.mk hs ?_ (by repeat (first | exact Le.refl _ | exact Le.nil _ | refine Le.hit ?_ | refine Le.hit1 ?_ | refine Le.hit2 ?_ | refine Le.hit3 ?_ | refine Le.hit4 ?_ | refine Le.hit5 ?_ | refine Le.hit6 ?_ | refine Le.hit7 ?_ | refine Le.hit8 ?_ | refine Le.hit9 ?_ | refine Le.hit10 ?_ | refine Le.skip ?_)))
    simp [okPid]; omega
  · refine TL.p (EvP.move rfl) ?_
    refine TL.gN rfl rfl rfl ?_
    refine TL.gN rfl rfl rfl ?_
    refine TL.p (EvP.pickF rfl rfl) ?_
    refine TL.p (EvP.assign rfl) ?_
    refine TL.nil ?_
    refine TX.thenN rfl rfl ?_
    refine TC.ret ?_
    refine TX.done rfl (Res.one rfl rfl) (fun w hs => Post0.mk hs ?_ (by repeat (first | exact Le.refl _ | exact Le.nil _ | refine Le.hit ?_ | refine Le.hit1 ?_ | refine Le.hit2 ?_ | refine Le.hit3 ?_ | refine Le.hit4 ?_ | refine Le.hit5 ?_ | refine Le.hit6 ?_ | refine Le.hit7 ?_ | refine Le.hit8 ?_ | refine Le.hit9 ?_ | refine Le.hit10 ?_ | refine Le.skip ?_)))
    simp [okPid]; omega

theorem rp_spec {w0 w : World} {R : List Chunk} (n : Int) (hst : St w0 w R) : Calls Tryd.prog 31 #[.int .i64 n] w (Post0 w0 R fun v => v = .bool (okPid n)) := by
  refine calls_of (args := [_]) Tryd.func31 rfl Tryd.ntmps31 hst ?_
  refine TC.seq ?_
  refine TC.region ?_
  refine TL.p (EvP.assign rfl) ?_
  refine TL.nil ?_
  refine TX.thenN rfl rfl ?_
  refine TC.seq ?_
  refine TC.region ?_
  refine TL.p (EvP.move rfl) ?_
  refine TL.dec (EvP.ge rfl rfl) (fun h4 => ?_) (fun h4 => ?_)
  · refine TL.p (EvP.move rfl) ?_
    refine TL.gY rfl rfl rfl ?_
    refine TL.p (EvP.move rfl) ?_
    refine TL.gY rfl rfl rfl ?_
    refine TL.p (EvP.le rfl rfl) ?_
    refine TL.p (EvP.pickT rfl rfl) ?_
    refine TL.p (EvP.assign rfl) ?_
    refine TL.nil ?_
    refine TX.thenN rfl rfl ?_
    refine TC.ret ?_
    refine TX.done rfl (Res.one rfl rfl) (fun w hs => Post0.mk hs ?_ (by repeat (first | exact Le.refl _ | exact Le.nil _ | refine Le.hit ?_ | refine Le.hit1 ?_ | refine Le.hit2 ?_ | refine Le.hit3 ?_ | refine Le.hit4 ?_ | refine Le.hit5 ?_ | refine Le.hit6 ?_ | refine Le.hit7 ?_ | refine Le.hit8 ?_ | refine Le.hit9 ?_ | refine Le.hit10 ?_ | refine Le.skip ?_)))
    simp [okPid]; omega
  · refine TL.p (EvP.move rfl) ?_
    refine TL.gN rfl rfl rfl ?_
    refine TL.gN rfl rfl rfl ?_
    refine TL.p (EvP.pickF rfl rfl) ?_
    refine TL.p (EvP.assign rfl) ?_
    refine TL.nil ?_
    refine TX.thenN rfl rfl ?_
    refine TC.ret ?_
    refine TX.done rfl (Res.one rfl rfl) (fun w hs => Post0.mk hs ?_ (by repeat (first | exact Le.refl _ | exact Le.nil _ | refine Le.hit ?_ | refine Le.hit1 ?_ | refine Le.hit2 ?_ | refine Le.hit3 ?_ | refine Le.hit4 ?_ | refine Le.hit5 ?_ | refine Le.hit6 ?_ | refine Le.hit7 ?_ | refine Le.hit8 ?_ | refine Le.hit9 ?_ | refine Le.hit10 ?_ | refine Le.skip ?_)))
    simp [okPid]; omega

theorem atom_spec {w0 w : World} {R : List Chunk} (s : Str) (hst : St w0 w R) : Calls Tryd.prog 29 #[sv s] w (Post1 w0 R fun u C => Sl 57 3 Cl.enc u [atomC s] C) := by
  refine calls_of (args := [_]) Tryd.func29 rfl Tryd.ntmps29 hst ?_
  refine TC.seq ?_
  refine TC.region ?_
  refine TL.p (EvP.assign rfl) ?_
  refine TL.nil ?_
  refine TX.thenN rfl rfl ?_
  refine TC.seq ?_
  refine TC.region ?_
  refine TL.p (EvP.move rfl) ?_
  refine TL.p (EvP.buildS (is := [0, 2]) (xs := [_, _]) rfl Tryd.runUnderlying57 Tryd.zeroValue57 rfl (.cons Tryd.sizeOf3 (.cons Tryd.sizeOf2 (.cons Tryd.sizeOf9 .nil))) rfl rfl rfl) ?_
  refine TL.lit1 (atomC s) rfl elC Tryd.underlying22 (by decide) (by decide) encC_ok rfl (fun u1 D1 hD1 => ?_)
  refine TL.p (EvP.assign rfl) ?_
  refine TL.nil ?_
  refine TX.thenN rfl rfl ?_
  refine TC.ret ?_
  refine TX.done rfl (Res.one rfl rfl) (fun w hs => Post1.mk (C := D1) hs ?_ (by repeat (first | exact Le.refl _ | exact Le.nil _ | refine Le.hit ?_ | refine Le.hit1 ?_ | refine Le.hit2 ?_ | refine Le.hit3 ?_ | refine Le.hit4 ?_ | refine Le.hit5 ?_ | refine Le.hit6 ?_ | refine Le.hit7 ?_ | refine Le.hit8 ?_ | refine Le.hit9 ?_ | refine Le.hit10 ?_ | refine Le.skip ?_)))
  exact hD1

theorem latom_spec {w0 w : World} {R : List Chunk} (s : Str) (hst : St w0 w R) : Calls Tryd.prog 24 #[sv s] w (Post1 w0 R fun u C => Sl 57 3 Cl.enc u [atomC s] C) := by
  refine calls_of (args := [_]) Tryd.func24 rfl Tryd.ntmps24 hst ?_
  refine TC.seq ?_
  refine TC.region ?_
  refine TL.p (EvP.assign rfl) ?_
  refine TL.nil ?_
  refine TX.thenN rfl rfl ?_
  refine TC.seq ?_
  refine TC.region ?_
  refine TL.p (EvP.move rfl) ?_
  refine TL.p (EvP.buildS (is := [0, 2]) (xs := [_, _]) rfl Tryd.runUnderlying57 Tryd.zeroValue57 rfl (.cons Tryd.sizeOf3 (.cons Tryd.sizeOf2 (.cons Tryd.sizeOf9 .nil))) rfl rfl rfl) ?_
  refine TL.lit1 (atomC s) rfl elC Tryd.underlying22 (by decide) (by decide) encC_ok rfl (fun u1 D1 hD1 => ?_)
  refine TL.p (EvP.assign rfl) ?_
  refine TL.nil ?_
  refine TX.thenN rfl rfl ?_
  refine TC.ret ?_
  refine TX.done rfl (Res.one rfl rfl) (fun w hs => Post1.mk (C := D1) hs ?_ (by repeat (first | exact Le.refl _ | exact Le.nil _ | refine Le.hit ?_ | refine Le.hit1 ?_ | refine Le.hit2 ?_ | refine Le.hit3 ?_ | refine Le.hit4 ?_ | refine Le.hit5 ?_ | refine Le.hit6 ?_ | refine Le.hit7 ?_ | refine Le.hit8 ?_ | refine Le.hit9 ?_ | refine Le.hit10 ?_ | refine Le.skip ?_)))
  exact hD1

theorem ratom_spec {w0 w : World} {R : List Chunk} (s : Str) (hst : St w0 w R) : Calls Tryd.prog 33 #[sv s] w (Post0 w0 R fun u => u = (atomC s).v) := by
  refine calls_of (args := [_]) Tryd.func33 rfl Tryd.ntmps33 hst ?_
  refine TC.seq ?_
  refine TC.region ?_
  refine TL.alloc Tryd.zeroValue57 rfl (fun b2 => ?_)
  refine TL.nil ?_
  refine TX.thenN rfl rfl ?_
  refine TC.seq ?_
  refine TC.region ?_
  refine TL.p (EvP.move rfl) ?_
  refine TL.p (EvP.buildS (is := [0, 2]) (xs := [_, _]) rfl Tryd.runUnderlying57 Tryd.zeroValue57 rfl (.cons Tryd.sizeOf3 (.cons Tryd.sizeOf2 (.cons Tryd.sizeOf9 .nil))) rfl rfl rfl) ?_
  refine TL.u (EvU.store rfl rfl Tryd.sizeOf57 rfl rfl rfl rfl (by repeat (first | exact Has.hd | refine Has.tlb ?_ | refine Has.tlc ?_)) (by repeat (first | exact SetLs.nil | exact SetL.here | apply SetLs.cons | apply SetL.there)) (by repeat (first | exact Upd.hd | apply Upd.tlb | apply Upd.tlc))) ?_
  refine TL.nil ?_
  refine TX.thenN rfl rfl ?_
  refine TC.ret ?_
  refine TX.done rfl (Res.c rfl rfl (run_loadN (vs := [_, _, _]) Tryd.isAgg57 Tryd.sizeOf57 (AtB.own (by repeat (first | exact Has.hd | refine Has.tlb ?_ | refine Has.tlc ?_))) (by exact ⟨rfl, rfl, rfl, trivial⟩))) (fun w hs => Post0.mk hs ?_ (by repeat (first | exact Le.refl _ | exact Le.nil _ | refine Le.hit ?_ | refine Le.hit1 ?_ | refine Le.hit2 ?_ | refine Le.hit3 ?_ | refine Le.hit4 ?_ | refine Le.hit5 ?_ | refine Le.hit6 ?_ | refine Le.hit7 ?_ | refine Le.hit8 ?_ | refine Le.hit9 ?_ | refine Le.hit10 ?_ | refine Le.skip ?_)))
  rfl

theorem is_spec {w0 w : World} {R : List Chunk} {v : Value} {xs : List Cl} (he : Els (fun w => St w0 w R) v 3 Cl.enc 57 xs) (s : Str) (hst : St w0 w R) : Calls Tryd.prog 28 #[v, sv s] w (Post0 w0 R fun u => u = .bool (isA xs s)) := by
  obtain ⟨⟨a, cap, rfl⟩, he2⟩ := id he
  refine calls_of (args := [_, _]) Tryd.func28 rfl Tryd.ntmps28 hst ?_
  refine TC.seq ?_
  refine TC.region ?_
  refine TL.p (EvP.assign rfl) ?_
  refine TL.nil ?_
  refine TX.thenN rfl rfl ?_
  refine TC.seq ?_
  refine TC.region ?_
  refine TL.p (EvP.move rfl) ?_
  refine TL.p (EvP.lenS Tryd.runUnderlying22 rfl) ?_
  refine TL.dec (EvP.eq rfl rfl) (fun h7 => ?_) (fun h7 => ?_)
  · refine TL.p (EvP.move rfl) ?_
    refine TL.gY rfl rfl rfl ?_
    refine TL.p (EvP.move rfl) ?_
    refine TL.gY rfl rfl rfl ?_
    obtain ⟨x, rfl⟩ : ∃ x, xs = [x] := one_of (by omega)
    refine TL.elem (he2 0 x rfl) Tryd.runUnderlying22 Tryd.sizeOf57 rfl rfl (fun bE oE lE _ _ hE hcE => ?_)
    refine TL.gY rfl rfl rfl ?_
    refine TL.r (EvR.loadN (vs := [_, _, _]) rfl Tryd.isAgg57 Tryd.sizeOf57 hE hcE) ?_
    refine TL.gY rfl rfl rfl ?_
    refine TL.p (EvP.move rfl) ?_
    refine TL.gY rfl rfl rfl ?_
    refine TL.p (EvP.buildS (is := [0, 2]) (xs := [_, _]) rfl Tryd.runUnderlying57 Tryd.zeroValue57 rfl (.cons Tryd.sizeOf3 (.cons Tryd.sizeOf2 (.cons Tryd.sizeOf9 .nil))) rfl rfl rfl) ?_
    refine TL.gY rfl rfl rfl ?_
    refine TL.p (eqCl x (atomC s)) ?_
    refine TL.p (EvP.pickT rfl rfl) ?_
    refine TL.p (EvP.assign rfl) ?_
    refine TL.nil ?_
    refine TX.thenN rfl rfl ?_
    refine TC.ret ?_
    refine TX.done rfl (Res.one rfl rfl) (fun w hs => Post0.mk hs ?_ (by repeat (first | exact Le.refl _ | exact Le.nil _ | refine Le.hit ?_ | refine Le.hit1 ?_ | refine Le.hit2 ?_ | refine Le.hit3 ?_ | refine Le.hit4 ?_ | refine Le.hit5 ?_ | refine Le.hit6 ?_ | refine Le.hit7 ?_ | refine Le.hit8 ?_ | refine Le.hit9 ?_ | refine Le.hit10 ?_ | refine Le.skip ?_)))
    rw [isA_one]
  · refine TL.p (EvP.move rfl) ?_
    refine TL.gN rfl rfl rfl ?_
    refine TL.gN rfl rfl rfl ?_
    refine TL.gN rfl rfl rfl ?_
    refine TL.gN rfl rfl rfl ?_
    refine TL.gN rfl rfl rfl ?_
    refine TL.gN rfl rfl rfl ?_
    refine TL.p (EvP.pickF rfl rfl) ?_
    refine TL.p (EvP.assign rfl) ?_
    refine TL.nil ?_
    refine TX.thenN rfl rfl ?_
    refine TC.ret ?_
    refine TX.done rfl (Res.one rfl rfl) (fun w hs => Post0.mk hs ?_ (by repeat (first | exact Le.refl _ | exact Le.nil _ | refine Le.hit ?_ | refine Le.hit1 ?_ | refine Le.hit2 ?_ | refine Le.hit3 ?_ | refine Le.hit4 ?_ | refine Le.hit5 ?_ | refine Le.hit6 ?_ | refine Le.hit7 ?_ | refine Le.hit8 ?_ | refine Le.hit9 ?_ | refine Le.hit10 ?_ | refine Le.skip ?_)))
    rw [isA_no (by omega)]

theorem rIs_spec {w0 w : World} {R : List Chunk} {v : Value} {xs : List Cl} (he : Els (fun w => St w0 w R) v 3 Cl.enc 57 xs) (s : Str) (hst : St w0 w R) : Calls Tryd.prog 20 #[v, sv s] w (Post0 w0 R fun u => u = .bool (isA xs s)) := by
  obtain ⟨⟨a, cap, rfl⟩, he2⟩ := id he
  refine calls_of (args := [_, _]) Tryd.func20 rfl Tryd.ntmps20 hst ?_
  refine TC.seq ?_
  refine TC.region ?_
  refine TL.p (EvP.assign rfl) ?_
  refine TL.nil ?_
  refine TX.thenN rfl rfl ?_
  refine TC.seq ?_
  refine TC.drawn (listed := #[false, false, false, false, false, false, false, false, false, false, false, false]) 12 (fun w => St w0 w R) rfl rfl rfl rfl (fun _ hs => hs) ?_
  refine TR.take 0 rfl (by kernel_rfl) (by kernel_rfl) (by kernel_rfl) (EvP.r (by exact EvP.move rfl)) (l' := #[true, false, false, false, false, false, false, false, false, false, false, false]) rfl ?_
  refine TR.take 1 rfl (by kernel_rfl) (by kernel_rfl) (by kernel_rfl) (EvP.r (by exact EvP.lenS Tryd.runUnderlying22 rfl)) (l' := #[true, true, false, false, false, false, false, false, false, false, false, false]) rfl ?_
  refine TR.take 2 rfl (by kernel_rfl) (by kernel_rfl) (by kernel_rfl) (EvP.r (by exact EvP.eq rfl rfl)) (l' := #[true, true, true, false, false, false, false, false, false, false, false, false]) rfl ?_
  refine TR.take 3 rfl (by kernel_rfl) (by kernel_rfl) (by kernel_rfl) (EvP.r (by exact EvP.move rfl)) (l' := #[true, true, true, true, false, false, false, false, false, false, false, false]) rfl ?_
  refine TR.bsplit 8 rfl (fun h8 => ?_) (fun h8 => ?_)
  · refine TR.takeY 4 rfl rfl rfl rfl (by kernel_rfl) (by kernel_rfl) (by kernel_rfl) (EvP.r (by exact EvP.move rfl)) (l' := #[true, true, true, true, true, false, false, false, false, false, false, false]) rfl ?_
    obtain ⟨x, rfl⟩ : ∃ x, xs = [x] := one_of (by have := of_decide_eq_true h8; omega)
    obtain ⟨c1, o1, n1, k1, l1, _, _, q1, hj1, hb1, hc1⟩ := he2 0 x rfl
    cases q1
    refine TR.takeY 5 rfl rfl rfl rfl (by kernel_rfl) (by kernel_rfl) (by kernel_rfl) (EvP.r (by exact EvP.ix (j := 0) Tryd.runUnderlying22 Tryd.sizeOf57 rfl rfl ⟨by omega, by omega⟩)) (l' := #[true, true, true, true, true, true, false, false, false, false, false, false]) rfl ?_
    refine TR.takeY 6 rfl rfl rfl rfl (by kernel_rfl) (by kernel_rfl) (by kernel_rfl) (EvR.loadN (vs := [_, _, _]) rfl Tryd.isAgg57 Tryd.sizeOf57 hb1 hc1) (l' := #[true, true, true, true, true, true, true, false, false, false, false, false]) rfl ?_
    refine TR.takeY 7 rfl rfl rfl rfl (by kernel_rfl) (by kernel_rfl) (by kernel_rfl) (EvP.r (by exact EvP.move rfl)) (l' := #[true, true, true, true, true, true, true, true, false, false, false, false]) rfl ?_
    refine TR.one (i := 8) (by kernel_rfl) ?_
    refine TRi.callG rfl rfl rfl rfl rfl rfl Tryd.call33 (fun w hs => ratom_spec s hs) (l' := #[true, true, true, true, true, true, true, true, true, false, false, false]) rfl ?_
    rintro _ _ ⟨rfl, rfl⟩
    refine ⟨(fun w hs => hs.le (by repeat (first | exact Le.refl _ | exact Le.nil _ | refine Le.hit ?_ | refine Le.hit1 ?_ | refine Le.hit2 ?_ | refine Le.hit3 ?_ | refine Le.hit4 ?_ | refine Le.hit5 ?_ | refine Le.hit6 ?_ | refine Le.hit7 ?_ | refine Le.hit8 ?_ | refine Le.hit9 ?_ | refine Le.hit10 ?_ | refine Le.skip ?_))), ?_⟩
    refine TR.takeY 9 rfl rfl rfl rfl (by kernel_rfl) (by kernel_rfl) (by kernel_rfl) (EvP.r (eqCl x (atomC s))) (l' := #[true, true, true, true, true, true, true, true, true, true, false, false]) rfl ?_
    refine TR.take 10 rfl (by kernel_rfl) (by kernel_rfl) (by kernel_rfl) (EvP.r (by exact EvP.pickT rfl rfl)) (l' := #[true, true, true, true, true, true, true, true, true, true, true, false]) rfl ?_
    refine TR.take 11 rfl (by kernel_rfl) (by kernel_rfl) (by kernel_rfl) (EvP.r (by exact EvP.assign rfl)) (l' := #[true, true, true, true, true, true, true, true, true, true, true, true]) rfl ?_
    refine TR.done (by kernel_rfl) ?_
    refine TX.thenN rfl rfl ?_
    refine TC.ret ?_
    refine TX.done rfl (Res.one rfl rfl) (fun w hs => Post0.mk hs ?_ (by repeat (first | exact Le.refl _ | exact Le.nil _ | refine Le.hit ?_ | refine Le.hit1 ?_ | refine Le.hit2 ?_ | refine Le.hit3 ?_ | refine Le.hit4 ?_ | refine Le.hit5 ?_ | refine Le.hit6 ?_ | refine Le.hit7 ?_ | refine Le.hit8 ?_ | refine Le.hit9 ?_ | refine Le.hit10 ?_ | refine Le.skip ?_)))
    rw [isA_one]
  · refine TR.takeN 4 rfl rfl rfl rfl (by kernel_rfl) (by kernel_rfl) (by kernel_rfl) (l' := #[true, true, true, true, true, false, false, false, false, false, false, false]) rfl ?_
    refine TR.takeN 5 rfl rfl rfl rfl (by kernel_rfl) (by kernel_rfl) (by kernel_rfl) (l' := #[true, true, true, true, true, true, false, false, false, false, false, false]) rfl ?_
    refine TR.takeN 6 rfl rfl rfl rfl (by kernel_rfl) (by kernel_rfl) (by kernel_rfl) (l' := #[true, true, true, true, true, true, true, false, false, false, false, false]) rfl ?_
    refine TR.takeN 7 rfl rfl rfl rfl (by kernel_rfl) (by kernel_rfl) (by kernel_rfl) (l' := #[true, true, true, true, true, true, true, true, false, false, false, false]) rfl ?_
    refine TR.takeN 8 rfl rfl rfl rfl (by kernel_rfl) (by kernel_rfl) (by kernel_rfl) (l' := #[true, true, true, true, true, true, true, true, true, false, false, false]) rfl ?_
    refine TR.takeN 9 rfl rfl rfl rfl (by kernel_rfl) (by kernel_rfl) (by kernel_rfl) (l' := #[true, true, true, true, true, true, true, true, true, true, false, false]) rfl ?_
    refine TR.take 10 rfl (by kernel_rfl) (by kernel_rfl) (by kernel_rfl) (EvP.r (by exact EvP.pickF rfl rfl)) (l' := #[true, true, true, true, true, true, true, true, true, true, true, false]) rfl ?_
    refine TR.take 11 rfl (by kernel_rfl) (by kernel_rfl) (by kernel_rfl) (EvP.r (by exact EvP.assign rfl)) (l' := #[true, true, true, true, true, true, true, true, true, true, true, true]) rfl ?_
    refine TR.done (by kernel_rfl) ?_
    refine TX.thenN rfl rfl ?_
    refine TC.ret ?_
    refine TX.done rfl (Res.one rfl rfl) (fun w hs => Post0.mk hs ?_ (by repeat (first | exact Le.refl _ | exact Le.nil _ | refine Le.hit ?_ | refine Le.hit1 ?_ | refine Le.hit2 ?_ | refine Le.hit3 ?_ | refine Le.hit4 ?_ | refine Le.hit5 ?_ | refine Le.hit6 ?_ | refine Le.hit7 ?_ | refine Le.hit8 ?_ | refine Le.hit9 ?_ | refine Le.hit10 ?_ | refine Le.skip ?_)))
    rw [isA_no (by have := of_decide_eq_false h8; omega)]

theorem clone_nil {w0 w : World} {R : List Chunk} {cap : Nat} (hst : St w0 w R) : Calls Tryd.prog 30 #[.slice none 0 cap] w (Post0 w0 R fun u => u = .slice none 0 0) := by
  refine calls_of (args := [_]) Tryd.func30 rfl Tryd.ntmps30 hst ?_
  refine TC.seq ?_
  refine TC.region ?_
  refine TL.p (EvP.assign rfl) ?_
  refine TL.nil ?_
  refine TX.thenN rfl rfl ?_
  refine TC.seq ?_
  refine TC.seq ?_
  refine TC.region ?_
  refine TL.p (EvP.move rfl) ?_
  refine TL.p (EvP.eqSlNil Tryd.runUnderlying22 rfl rfl) ?_
  refine TL.nil ?_
  refine TX.thenN rfl rfl ?_
  refine TC.ctrue rfl ?_
  refine TC.seq ?_
  refine TC.region ?_
  refine TL.p (EvP.assign rfl) ?_
  refine TL.nil ?_
  refine TX.thenN rfl rfl ?_
  refine TC.ret ?_
  refine TX.thenR ?_
  refine TX.done rfl (Res.one rfl rfl) (fun w hs => Post0.mk hs ?_ (by repeat (first | exact Le.refl _ | exact Le.nil _ | refine Le.hit ?_ | refine Le.hit1 ?_ | refine Le.hit2 ?_ | refine Le.hit3 ?_ | refine Le.hit4 ?_ | refine Le.hit5 ?_ | refine Le.hit6 ?_ | refine Le.hit7 ?_ | refine Le.hit8 ?_ | refine Le.hit9 ?_ | refine Le.hit10 ?_ | refine Le.skip ?_)))
  rfl

theorem clone_some {w0 w : World} {R : List Chunk} {p : Addr} {n cap : Nat} {xs : List Cl} (he : Els (fun w => St w0 w R) (.slice (some p) n cap) 3 Cl.enc 57 xs) (hsz : xs.length ≤ 4398046511000) (hst : St w0 w R) : Calls Tryd.prog 30 #[.slice (some p) n cap] w (Post1 w0 R fun u C => Sl 57 3 Cl.enc u xs C) := by
  refine calls_of (args := [_]) Tryd.func30 rfl Tryd.ntmps30 hst ?_
  refine TC.seq ?_
  refine TC.region ?_
  refine TL.p (EvP.assign rfl) ?_
  refine TL.nil ?_
  refine TX.thenN rfl rfl ?_
  refine TC.seq ?_
  refine TC.seq ?_
  refine TC.region ?_
  refine TL.p (EvP.move rfl) ?_
  refine TL.p (EvP.eqSlNil Tryd.runUnderlying22 rfl rfl) ?_
  refine TL.nil ?_
  refine TX.thenN rfl rfl ?_
  refine TC.cfalse rfl ?_
  refine TC.skip ?_
  refine TX.thenN rfl rfl ?_
  refine TC.seq ?_
  refine TC.region ?_
  refine TL.lit0 elC Tryd.underlying22 (fun u0 D0 hD0 => ?_)
  refine TL.p (EvP.move rfl) ?_
  refine TL.append rfl rfl elC Tryd.underlying22 encC_ok hD0 (SrcR.els Tryd.underlying22 encC_ok (by decide) (he.sub (by repeat (first | exact Le.refl _ | exact Le.nil _ | refine Le.hit ?_ | refine Le.hit1 ?_ | refine Le.hit2 ?_ | refine Le.hit3 ?_ | refine Le.hit4 ?_ | refine Le.hit5 ?_ | refine Le.hit6 ?_ | refine Le.hit7 ?_ | refine Le.hit8 ?_ | refine Le.hit9 ?_ | refine Le.hit10 ?_ | refine Le.skip ?_)))) (by simp only [List.length_nil]; omega) (by decide) (fun v2 C2 hC2 => ?_)
  refine TL.p (EvP.assign rfl) ?_
  refine TL.nil ?_
  refine TX.thenN rfl rfl ?_
  refine TC.ret ?_
  refine TX.done rfl (Res.one rfl rfl) (fun w hs => Post1.mk (C := C2) hs ?_ (by repeat (first | exact Le.refl _ | exact Le.nil _ | refine Le.hit ?_ | refine Le.hit1 ?_ | refine Le.hit2 ?_ | refine Le.hit3 ?_ | refine Le.hit4 ?_ | refine Le.hit5 ?_ | refine Le.hit6 ?_ | refine Le.hit7 ?_ | refine Le.hit8 ?_ | refine Le.hit9 ?_ | refine Le.hit10 ?_ | refine Le.skip ?_)))
  simpa using hC2

theorem clone_spec {w0 w : World} {R : List Chunk} {v : Value} {xs : List Cl} (he : Els (fun w => St w0 w R) v 3 Cl.enc 57 xs) (hsz : xs.length ≤ 4398046511000) (hst : St w0 w R) : Calls Tryd.prog 30 #[v] w (Post1 w0 R fun u C => Sl 57 3 Cl.enc u xs C) := by
  obtain ⟨⟨a, cap, rfl⟩, he2⟩ := id he
  cases a with
  | none =>
    cases xs with
    | nil =>
      refine (clone_nil hst).mono ?_
      rintro e w' ⟨v, Hq, rfl, ⟨rfl, rfl⟩, hs⟩
      exact ⟨_, [[]], rfl, ⟨[], rfl, Sl.nil⟩, hs.le Le.nilC⟩
    | cons x xs =>
      obtain ⟨b, off, len, cp, l, T', fz, e, _⟩ := he2 0 x rfl
      cases e
  | some p => exact clone_some he hsz hst

theorem tuple_spec {w0 w : World} {R : List Chunk} {v u9 : Value} {xs ys : List Cl} (he : Els (fun w => St w0 w R) v 3 Cl.enc 57 xs) (hd : Els (fun w => St w0 w R) u9 3 Cl.enc 57 ys) (hsz : xs.length ≤ 1024) (hsy : ys.length ≤ 8) (hst : St w0 w R) : Calls Tryd.prog 34 #[v, u9] w (Post1 w0 R fun u C => Sl 57 3 Cl.enc u (msg (⟨5, (ys.length : Int) + 1, []⟩ :: ys) xs) C) := by
  obtain ⟨⟨a, cap, rfl⟩, _⟩ := id he
  obtain ⟨⟨a9, cap9, rfl⟩, _⟩ := id hd
  refine calls_of (args := [_, _]) Tryd.func34 rfl Tryd.ntmps34 hst ?_
  refine TC.seq ?_
  refine TC.region ?_
  refine TL.p (EvP.assign rfl) ?_
  refine TL.nil ?_
  refine TX.thenN rfl rfl ?_
  refine TC.seq ?_
  refine TC.region ?_
  refine TL.p (EvP.move rfl) ?_
  refine TL.p (EvP.lenS Tryd.runUnderlying22 rfl) ?_
  refine TL.p (EvP.add rfl rfl (by omega)) ?_
  refine TL.p (EvP.buildS (is := [0, 1]) (xs := [_, _]) rfl Tryd.runUnderlying57 Tryd.zeroValue57 rfl (.cons Tryd.sizeOf3 (.cons Tryd.sizeOf2 (.cons Tryd.sizeOf9 .nil))) rfl rfl rfl) ?_
  refine TL.lit1 (⟨5, (ys.length : Int) + 1, []⟩) rfl elC Tryd.underlying22 (by decide) (by decide) encC_ok rfl (fun u1 D1 hD1 => ?_)
  refine TL.p (EvP.move rfl) ?_
  refine TL.append rfl rfl elC Tryd.underlying22 encC_ok hD1 (SrcR.els Tryd.underlying22 encC_ok (by decide) (hd.sub (by repeat (first | exact Le.refl _ | exact Le.nil _ | refine Le.hit ?_ | refine Le.hit1 ?_ | refine Le.hit2 ?_ | refine Le.hit3 ?_ | refine Le.hit4 ?_ | refine Le.hit5 ?_ | refine Le.hit6 ?_ | refine Le.hit7 ?_ | refine Le.hit8 ?_ | refine Le.hit9 ?_ | refine Le.hit10 ?_ | refine Le.skip ?_)))) (by simp only [List.length_singleton]; omega) (by decide) (fun v1 C1 hC1 => ?_)
  refine TL.p (EvP.assign rfl) ?_
  refine TL.nil ?_
  refine TX.thenN rfl rfl ?_
  refine TC.seq ?_
  refine TC.seq ?_
  refine TC.region ?_
  refine TL.p (EvP.move rfl) ?_
  obtain ⟨q1, q2, rfl⟩ : ∃ q1 q2, v1 = .slice q1 (ys.length + 1) q2 := by obtain ⟨q1, q2, hq, _, _⟩ := hC1.len; exact ⟨q1, q2, by rw [hq]; congr 1⟩
  refine TL.p (EvP.lenS Tryd.runUnderlying22 rfl) ?_
  refine TL.p (EvP.move rfl) ?_
  refine TL.p (EvP.lenS Tryd.runUnderlying22 rfl) ?_
  refine TL.p (EvP.add rfl rfl (by omega)) ?_
  refine TL.dec (EvP.gt rfl rfl) (fun h18 => ?_) (fun h18 => ?_)
  · refine TL.nil ?_
    refine TX.thenN rfl rfl ?_
    refine TC.ctrue rfl ?_
    refine TC.region ?_
    refine TL.callB rfl rfl Tryd.call29 (fun w hs => atom_spec limit hs) ?_
    rintro uL D2 hL
    refine TL.p (EvP.assign rfl) ?_
    refine TL.nil ?_
    refine TX.thenN rfl rfl ?_
    refine TC.seq ?_
    refine TC.region ?_
    refine TL.p (EvP.move rfl) ?_
    refine TL.p (EvP.move rfl) ?_
    refine TL.le (Le.hit1 (Le.refl _)) ?_
    refine TL.append rfl rfl elC Tryd.underlying22 encC_ok hC1 (SrcR.sl Tryd.underlying22 encC_ok hL (by simp)) (by simp only [List.length_append, List.length_cons, List.length_nil]; omega) (by decide) (fun v3 C3 hC3 => ?_)
    refine TL.p (EvP.assign rfl) ?_
    refine TL.nil ?_
    refine TX.thenN rfl rfl ?_
    refine TC.ret ?_
    refine TX.done rfl (Res.one rfl rfl) (fun w hs => Post1.mk (C := C3) hs ?_ (by repeat (first | exact Le.refl _ | exact Le.nil _ | refine Le.hit ?_ | refine Le.hit1 ?_ | refine Le.hit2 ?_ | refine Le.hit3 ?_ | refine Le.hit4 ?_ | refine Le.hit5 ?_ | refine Le.hit6 ?_ | refine Le.hit7 ?_ | refine Le.hit8 ?_ | refine Le.hit9 ?_ | refine Le.hit10 ?_ | refine Le.skip ?_)))
    rw [msg_lim (by simp only [List.length_cons]; omega)]
    simpa using hC3
  · refine TL.nil ?_
    refine TX.thenN rfl rfl ?_
    refine TC.cfalse rfl ?_
    refine TC.skip ?_
    refine TX.thenN rfl rfl ?_
    refine TC.seq ?_
    refine TC.region ?_
    refine TL.p (EvP.move rfl) ?_
    refine TL.p (EvP.move rfl) ?_
    refine TL.append rfl rfl elC Tryd.underlying22 encC_ok hC1 (SrcR.els Tryd.underlying22 encC_ok (by decide) (he.sub (by repeat (first | exact Le.refl _ | exact Le.nil _ | refine Le.hit ?_ | refine Le.hit1 ?_ | refine Le.hit2 ?_ | refine Le.hit3 ?_ | refine Le.hit4 ?_ | refine Le.hit5 ?_ | refine Le.hit6 ?_ | refine Le.hit7 ?_ | refine Le.hit8 ?_ | refine Le.hit9 ?_ | refine Le.hit10 ?_ | refine Le.skip ?_)))) (by simp only [List.length_append, List.length_cons, List.length_nil]; omega) (by decide) (fun v3 C3 hC3 => ?_)
    refine TL.p (EvP.assign rfl) ?_
    refine TL.nil ?_
    refine TX.thenN rfl rfl ?_
    refine TC.ret ?_
    refine TX.done rfl (Res.one rfl rfl) (fun w hs => Post1.mk (C := C3) hs ?_ (by repeat (first | exact Le.refl _ | exact Le.nil _ | refine Le.hit ?_ | refine Le.hit1 ?_ | refine Le.hit2 ?_ | refine Le.hit3 ?_ | refine Le.hit4 ?_ | refine Le.hit5 ?_ | refine Le.hit6 ?_ | refine Le.hit7 ?_ | refine Le.hit8 ?_ | refine Le.hit9 ?_ | refine Le.hit10 ?_ | refine Le.skip ?_)))
    rw [msg_ok (by simp only [List.length_cons]; omega)]
    simpa using hC3

theorem told_spec {w0 w : World} {R : List Chunk} {v u9 : Value} {xs ys : List Cl} (he : Els (fun w => St w0 w R) v 3 Cl.enc 57 xs) (hd : Els (fun w => St w0 w R) u9 3 Cl.enc 57 ys) (hsz : xs.length ≤ 1024) (hsy : ys.length ≤ 8) (hst : St w0 w R) : Calls Tryd.prog 35 #[u9, v] w (Post1 w0 R fun u C => Sl 57 3 Cl.enc u (msg ys xs) C) := by
  obtain ⟨⟨a, cap, rfl⟩, _⟩ := id he
  obtain ⟨⟨a9, cap9, rfl⟩, _⟩ := id hd
  refine calls_of (args := [_, _]) Tryd.func35 rfl Tryd.ntmps35 hst ?_
  refine TC.seq ?_
  refine TC.region ?_
  refine TL.p (EvP.assign rfl) ?_
  refine TL.nil ?_
  refine TX.thenN rfl rfl ?_
  refine TC.seq ?_
  refine TC.region ?_
  refine TL.p (EvP.assign rfl) ?_
  refine TL.nil ?_
  refine TX.thenN rfl rfl ?_
  refine TC.seq ?_
  refine TC.region ?_
  refine TL.p (EvP.move rfl) ?_
  refine TL.p (EvP.move rfl) ?_
  refine TL.le Le.nilC ?_
  refine TL.append (C := []) (xs := []) rfl rfl elC Tryd.underlying22 encC_ok Sl.nil (SrcR.els Tryd.underlying22 encC_ok (by decide) (hd.sub (by repeat (first | exact Le.refl _ | exact Le.nil _ | refine Le.hit ?_ | refine Le.hit1 ?_ | refine Le.hit2 ?_ | refine Le.hit3 ?_ | refine Le.hit4 ?_ | refine Le.hit5 ?_ | refine Le.hit6 ?_ | refine Le.hit7 ?_ | refine Le.hit8 ?_ | refine Le.hit9 ?_ | refine Le.hit10 ?_ | refine Le.skip ?_)))) (by simp only [List.length_nil]; omega) (by decide) (fun v1 C1 hC1 => ?_)
  refine TL.p (EvP.assign rfl) ?_
  refine TL.nil ?_
  refine TX.thenN rfl rfl ?_
  refine TC.seq ?_
  refine TC.seq ?_
  refine TC.region ?_
  refine TL.p (EvP.move rfl) ?_
  refine TL.p (EvP.lenS Tryd.runUnderlying22 rfl) ?_
  refine TL.p (EvP.move rfl) ?_
  refine TL.p (EvP.lenS Tryd.runUnderlying22 rfl) ?_
  refine TL.p (EvP.add rfl rfl (by omega)) ?_
  refine TL.dec (EvP.gt rfl rfl) (fun h14 => ?_) (fun h14 => ?_)
  · refine TL.nil ?_
    refine TX.thenN rfl rfl ?_
    refine TC.ctrue rfl ?_
    refine TC.seq ?_
    refine TC.region ?_
    refine TL.p (EvP.move rfl) ?_
    refine TL.callA rfl rfl Tryd.call33 (fun w hs => ratom_spec limit hs) ?_
    rintro _ rfl
    refine TL.lit1 (atomC limit) rfl elC Tryd.underlying22 (by decide) (by decide) encC_ok rfl (fun uL D2 hD2 => ?_)
    refine TL.le (Le.hit1 (Le.refl _)) ?_
    refine TL.append rfl rfl elC Tryd.underlying22 encC_ok hC1 (SrcR.sl Tryd.underlying22 encC_ok hD2 (by simp)) (by simp only [List.nil_append, List.length_singleton]; omega) (by decide) (fun v3 C3 hC3 => ?_)
    refine TL.p (EvP.assign rfl) ?_
    refine TL.nil ?_
    refine TX.thenN rfl rfl ?_
    refine TC.ret ?_
    refine TX.thenR ?_
    refine TX.done rfl (Res.one rfl rfl) (fun w hs => Post1.mk (C := C3) hs ?_ (by repeat (first | exact Le.refl _ | exact Le.nil _ | refine Le.hit ?_ | refine Le.hit1 ?_ | refine Le.hit2 ?_ | refine Le.hit3 ?_ | refine Le.hit4 ?_ | refine Le.hit5 ?_ | refine Le.hit6 ?_ | refine Le.hit7 ?_ | refine Le.hit8 ?_ | refine Le.hit9 ?_ | refine Le.hit10 ?_ | refine Le.skip ?_)))
    rw [msg_lim (by omega)]
    simpa using hC3
  · refine TL.nil ?_
    refine TX.thenN rfl rfl ?_
    refine TC.cfalse rfl ?_
    refine TC.skip ?_
    refine TX.thenN rfl rfl ?_
    refine TC.seq ?_
    refine TC.region ?_
    refine TL.p (EvP.move rfl) ?_
    refine TL.p (EvP.move rfl) ?_
    refine TL.append rfl rfl elC Tryd.underlying22 encC_ok hC1 (SrcR.els Tryd.underlying22 encC_ok (by decide) (he.sub (by repeat (first | exact Le.refl _ | exact Le.nil _ | refine Le.hit ?_ | refine Le.hit1 ?_ | refine Le.hit2 ?_ | refine Le.hit3 ?_ | refine Le.hit4 ?_ | refine Le.hit5 ?_ | refine Le.hit6 ?_ | refine Le.hit7 ?_ | refine Le.hit8 ?_ | refine Le.hit9 ?_ | refine Le.hit10 ?_ | refine Le.skip ?_)))) (by simp only [List.nil_append]; omega) (by decide) (fun v3 C3 hC3 => ?_)
    refine TL.p (EvP.assign rfl) ?_
    refine TL.nil ?_
    refine TX.thenN rfl rfl ?_
    refine TC.ret ?_
    refine TX.done rfl (Res.one rfl rfl) (fun w hs => Post1.mk (C := C3) hs ?_ (by repeat (first | exact Le.refl _ | exact Le.nil _ | refine Le.hit ?_ | refine Le.hit1 ?_ | refine Le.hit2 ?_ | refine Le.hit3 ?_ | refine Le.hit4 ?_ | refine Le.hit5 ?_ | refine Le.hit6 ?_ | refine Le.hit7 ?_ | refine Le.hit8 ?_ | refine Le.hit9 ?_ | refine Le.hit10 ?_ | refine Le.skip ?_)))
    rw [msg_ok (by omega)]
    simpa using hC3

theorem exit_spec {w0 w : World} {R : List Chunk} {v : Value} {xs : List Cl} (hT : Tabs w0) (p : Int) (he : Els (fun w => St w0 w R) v 3 Cl.enc 57 xs) (hsz : xs.length ≤ 4398046511000) (hst : St w0 w R) : Calls Tryd.prog 12 #[.int .i64 p, v] w (Post1 w0 R fun u C => ∃ m, u = .tuple #[m, .int .i64 (exitM p xs).2] ∧ Sl 57 3 Cl.enc m (exitM p xs).1 C) := by
  obtain ⟨⟨a, cap, rfl⟩, _⟩ := id he
  refine calls_of (args := [_, _]) Tryd.func12 rfl Tryd.ntmps12 hst ?_
  refine TC.seq ?_
  refine TC.region ?_
  refine TL.p (EvP.assign rfl) ?_
  refine TL.p (EvP.assign rfl) ?_
  refine TL.nil ?_
  refine TX.thenN rfl rfl ?_
  refine TC.seq ?_
  refine TC.seq ?_
  refine TC.region ?_
  refine TL.p (EvP.move rfl) ?_
  refine TL.callA rfl rfl Tryd.call26 (fun w hs => pid_spec _ hs) ?_
  rintro _ rfl
  refine TL.p (EvP.not rfl) ?_
  refine TL.nil ?_
  refine TX.thenN rfl rfl ?_
  refine TC.cond rfl (fun h10 => ?_) (fun h10 => ?_)
  · refine TC.seq ?_
    refine TC.region ?_
    refine TL.p (EvP.assign rfl) ?_
    refine TL.p (EvP.assign rfl) ?_
    refine TL.nil ?_
    refine TX.thenN rfl rfl ?_
    refine TC.ret ?_
    refine TX.thenR ?_
    refine TX.done rfl (Res.two rfl rfl rfl) (fun w hs => Post1.mk (C := []) hs ?_ (Le.trans Le.nilC (by repeat (first | exact Le.refl _ | exact Le.nil _ | refine Le.hit ?_ | refine Le.hit1 ?_ | refine Le.hit2 ?_ | refine Le.hit3 ?_ | refine Le.hit4 ?_ | refine Le.hit5 ?_ | refine Le.hit6 ?_ | refine Le.hit7 ?_ | refine Le.hit8 ?_ | refine Le.hit9 ?_ | refine Le.hit10 ?_ | refine Le.skip ?_))))
    rw [exit_pid (by simpa using h10)]
    exact ⟨_, rfl, Sl.nil⟩
  · refine TC.skip ?_
    refine TX.thenN rfl rfl ?_
    refine TC.seq ?_
    refine TC.seq ?_
    refine TC.region ?_
    refine TL.p (EvP.move rfl) ?_
    refine TL.callA rfl rfl Tryd.call27 (fun w hs => wright_spec hT (he.sub (by repeat (first | exact Le.refl _ | exact Le.nil _ | refine Le.hit ?_ | refine Le.hit1 ?_ | refine Le.hit2 ?_ | refine Le.hit3 ?_ | refine Le.hit4 ?_ | refine Le.hit5 ?_ | refine Le.hit6 ?_ | refine Le.hit7 ?_ | refine Le.hit8 ?_ | refine Le.hit9 ?_ | refine Le.hit10 ?_ | refine Le.skip ?_))) (by omega) hs) ?_
    rintro _ rfl
    refine TL.p (EvP.move rfl) ?_
    refine TL.p (EvP.extract rfl rfl) ?_
    refine TL.p (EvP.extract rfl rfl) ?_
    refine TL.p (EvP.assign rfl) ?_
    refine TL.p (EvP.assign rfl) ?_
    refine TL.nil ?_
    refine TX.thenN rfl rfl ?_
    refine TC.seq ?_
    refine TC.region ?_
    refine TL.p (EvP.move rfl) ?_
    refine TL.dec (EvP.ne rfl rfl) (fun h17 => ?_) (fun h17 => ?_)
    · refine TL.nil ?_
      refine TX.thenN rfl rfl ?_
      refine TC.ctrue rfl ?_
      refine TC.seq ?_
      refine TC.region ?_
      refine TL.p (EvP.move rfl) ?_
      refine TL.p (EvP.assign rfl) ?_
      refine TL.p (EvP.assign rfl) ?_
      refine TL.nil ?_
      refine TX.thenN rfl rfl ?_
      refine TC.ret ?_
      refine TX.thenR ?_
      refine TX.done rfl (Res.two rfl rfl rfl) (fun w hs => Post1.mk (C := []) hs ?_ (Le.trans Le.nilC (by repeat (first | exact Le.refl _ | exact Le.nil _ | refine Le.hit ?_ | refine Le.hit1 ?_ | refine Le.hit2 ?_ | refine Le.hit3 ?_ | refine Le.hit4 ?_ | refine Le.hit5 ?_ | refine Le.hit6 ?_ | refine Le.hit7 ?_ | refine Le.hit8 ?_ | refine Le.hit9 ?_ | refine Le.hit10 ?_ | refine Le.skip ?_))))
      rw [exit_bad (by simpa using h10) (by omega)]
      exact ⟨_, rfl, Sl.nil⟩
    · refine TL.nil ?_
      refine TX.thenN rfl rfl ?_
      refine TC.cfalse rfl ?_
      refine TC.skip ?_
      refine TX.thenN rfl rfl ?_
      refine TC.seq ?_
      refine TC.region ?_
      have hsm := right_len (xs := xs) (by omega)
      refine TL.p (EvP.move rfl) ?_
      refine TL.p (EvP.buildS (is := [0, 2]) (xs := [_, _]) rfl Tryd.runUnderlying57 Tryd.zeroValue57 rfl (.cons Tryd.sizeOf3 (.cons Tryd.sizeOf2 (.cons Tryd.sizeOf9 .nil))) rfl rfl rfl) ?_
      refine TL.p (EvP.move rfl) ?_
      refine TL.p (EvP.buildS (is := [0, 1]) (xs := [_, _]) rfl Tryd.runUnderlying57 Tryd.zeroValue57 rfl (.cons Tryd.sizeOf3 (.cons Tryd.sizeOf2 (.cons Tryd.sizeOf9 .nil))) rfl rfl rfl) ?_
      refine TL.litn (enc := Cl.enc) (xs := [atomC exitS, ⟨4, p, []⟩]) (os := [.tmp 20, .tmp 22]) rfl elC Tryd.underlying22 (by decide) rfl rfl (by intro v hv; simp only [List.mem_cons, List.not_mem_nil, or_false] at hv; rcases hv with rfl | rfl <;> rfl) rfl (by decide) (fun uDH DH hDH => ?_)
      refine TL.callB rfl rfl Tryd.call34 (fun w hs => tuple_spec (he.sub (by repeat (first | exact Le.refl _ | exact Le.nil _ | refine Le.hit ?_ | refine Le.hit1 ?_ | refine Le.hit2 ?_ | refine Le.hit3 ?_ | refine Le.hit4 ?_ | refine Le.hit5 ?_ | refine Le.hit6 ?_ | refine Le.hit7 ?_ | refine Le.hit8 ?_ | refine Le.hit9 ?_ | refine Le.hit10 ?_ | refine Le.skip ?_))) (hDH.els encC_ok (by simp)) hsm (by simp) hs) ?_
      rintro uM CM hM
      refine TL.p (EvP.assign rfl) ?_
      refine TL.p (EvP.assign rfl) ?_
      refine TL.nil ?_
      refine TX.thenN rfl rfl ?_
      refine TC.ret ?_
      refine TX.done rfl (Res.two rfl rfl rfl) (fun w hs => Post1.mk (C := CM) hs ?_ (by repeat (first | exact Le.refl _ | exact Le.nil _ | refine Le.hit ?_ | refine Le.hit1 ?_ | refine Le.hit2 ?_ | refine Le.hit3 ?_ | refine Le.hit4 ?_ | refine Le.hit5 ?_ | refine Le.hit6 ?_ | refine Le.hit7 ?_ | refine Le.hit8 ?_ | refine Le.hit9 ?_ | refine Le.hit10 ?_ | refine Le.skip ?_)))
      rw [exit_ok (by simpa using h10) (by omega)]
      exact ⟨_, rfl, hM⟩

theorem rexit_spec {w0 w : World} {R : List Chunk} {v : Value} {xs : List Cl} (p : Int) (he : Els (fun w => St w0 w R) v 3 Cl.enc 57 xs) (hsz : xs.length ≤ 4398046511000) (hst : St w0 w R) : Calls Tryd.prog 13 #[.int .i64 p, v] w (Post1 w0 R fun u C => ∃ m, u = .tuple #[m, .int .i64 (exitM p xs).2] ∧ Sl 57 3 Cl.enc m (exitM p xs).1 C) := by
  obtain ⟨⟨a, cap, rfl⟩, _⟩ := id he
  refine calls_of (args := [_, _]) Tryd.func13 rfl Tryd.ntmps13 hst ?_
  refine TC.seq ?_
  refine TC.region ?_
  refine TL.p (EvP.assign rfl) ?_
  refine TL.p (EvP.assign rfl) ?_
  refine TL.nil ?_
  refine TX.thenN rfl rfl ?_
  refine TC.seq ?_
  refine TC.seq ?_
  refine TC.region ?_
  refine TL.p (EvP.move rfl) ?_
  refine TL.callA rfl rfl Tryd.call31 (fun w hs => rp_spec _ hs) ?_
  rintro _ rfl
  refine TL.p (EvP.not rfl) ?_
  refine TL.nil ?_
  refine TX.thenN rfl rfl ?_
  refine TC.cond rfl (fun h10 => ?_) (fun h10 => ?_)
  · refine TC.seq ?_
    refine TC.region ?_
    refine TL.p (EvP.assign rfl) ?_
    refine TL.p (EvP.assign rfl) ?_
    refine TL.nil ?_
    refine TX.thenN rfl rfl ?_
    refine TC.ret ?_
    refine TX.thenR ?_
    refine TX.done rfl (Res.two rfl rfl rfl) (fun w hs => Post1.mk (C := []) hs ?_ (Le.trans Le.nilC (by repeat (first | exact Le.refl _ | exact Le.nil _ | refine Le.hit ?_ | refine Le.hit1 ?_ | refine Le.hit2 ?_ | refine Le.hit3 ?_ | refine Le.hit4 ?_ | refine Le.hit5 ?_ | refine Le.hit6 ?_ | refine Le.hit7 ?_ | refine Le.hit8 ?_ | refine Le.hit9 ?_ | refine Le.hit10 ?_ | refine Le.skip ?_))))
    rw [exit_pid (by simpa using h10)]
    exact ⟨_, rfl, Sl.nil⟩
  · refine TC.skip ?_
    refine TX.thenN rfl rfl ?_
    refine TC.seq ?_
    refine TC.seq ?_
    refine TC.region ?_
    refine TL.p (EvP.move rfl) ?_
    refine TL.callA rfl rfl Tryd.call32 (fun w hs => rright_spec (he.sub (by repeat (first | exact Le.refl _ | exact Le.nil _ | refine Le.hit ?_ | refine Le.hit1 ?_ | refine Le.hit2 ?_ | refine Le.hit3 ?_ | refine Le.hit4 ?_ | refine Le.hit5 ?_ | refine Le.hit6 ?_ | refine Le.hit7 ?_ | refine Le.hit8 ?_ | refine Le.hit9 ?_ | refine Le.hit10 ?_ | refine Le.skip ?_))) (by omega) hs) ?_
    rintro _ rfl
    refine TL.p (EvP.move rfl) ?_
    refine TL.p (EvP.extract rfl rfl) ?_
    refine TL.p (EvP.extract rfl rfl) ?_
    refine TL.p (EvP.assign rfl) ?_
    refine TL.p (EvP.assign rfl) ?_
    refine TL.nil ?_
    refine TX.thenN rfl rfl ?_
    refine TC.seq ?_
    refine TC.region ?_
    refine TL.p (EvP.move rfl) ?_
    refine TL.dec (EvP.ne rfl rfl) (fun h17 => ?_) (fun h17 => ?_)
    · refine TL.nil ?_
      refine TX.thenN rfl rfl ?_
      refine TC.ctrue rfl ?_
      refine TC.seq ?_
      refine TC.region ?_
      refine TL.p (EvP.move rfl) ?_
      refine TL.p (EvP.assign rfl) ?_
      refine TL.p (EvP.assign rfl) ?_
      refine TL.nil ?_
      refine TX.thenN rfl rfl ?_
      refine TC.ret ?_
      refine TX.thenR ?_
      refine TX.done rfl (Res.two rfl rfl rfl) (fun w hs => Post1.mk (C := []) hs ?_ (Le.trans Le.nilC (by repeat (first | exact Le.refl _ | exact Le.nil _ | refine Le.hit ?_ | refine Le.hit1 ?_ | refine Le.hit2 ?_ | refine Le.hit3 ?_ | refine Le.hit4 ?_ | refine Le.hit5 ?_ | refine Le.hit6 ?_ | refine Le.hit7 ?_ | refine Le.hit8 ?_ | refine Le.hit9 ?_ | refine Le.hit10 ?_ | refine Le.skip ?_))))
      rw [exit_bad (by simpa using h10) (by omega)]
      exact ⟨_, rfl, Sl.nil⟩
    · refine TL.nil ?_
      refine TX.thenN rfl rfl ?_
      refine TC.cfalse rfl ?_
      refine TC.skip ?_
      refine TX.thenN rfl rfl ?_
      refine TC.seq ?_
      refine TC.region ?_
      have hsm := right_len (xs := xs) (by omega)
      refine TL.p (EvP.buildS (is := [0, 1]) (xs := [_, _]) rfl Tryd.runUnderlying57 Tryd.zeroValue57 rfl (.cons Tryd.sizeOf3 (.cons Tryd.sizeOf2 (.cons Tryd.sizeOf9 .nil))) rfl rfl rfl) ?_
      refine TL.callA rfl rfl Tryd.call33 (fun w hs => ratom_spec exitS hs) ?_
      rintro _ rfl
      refine TL.p (EvP.move rfl) ?_
      refine TL.p (EvP.buildS (is := [0, 1]) (xs := [_, _]) rfl Tryd.runUnderlying57 Tryd.zeroValue57 rfl (.cons Tryd.sizeOf3 (.cons Tryd.sizeOf2 (.cons Tryd.sizeOf9 .nil))) rfl rfl rfl) ?_
      refine TL.litn (enc := Cl.enc) (xs := [⟨5, 3, []⟩, atomC exitS, ⟨4, p, []⟩]) (os := [.tmp 19, .tmp 20, .tmp 22]) rfl elC Tryd.underlying22 (by decide) rfl rfl (by intro v hv; simp only [List.mem_cons, List.not_mem_nil, or_false] at hv; rcases hv with rfl | rfl | rfl <;> rfl) rfl (by decide) (fun uDH DH hDH => ?_)
      refine TL.p (EvP.move rfl) ?_
      refine TL.callB rfl rfl Tryd.call35 (fun w hs => told_spec (he.sub (by repeat (first | exact Le.refl _ | exact Le.nil _ | refine Le.hit ?_ | refine Le.hit1 ?_ | refine Le.hit2 ?_ | refine Le.hit3 ?_ | refine Le.hit4 ?_ | refine Le.hit5 ?_ | refine Le.hit6 ?_ | refine Le.hit7 ?_ | refine Le.hit8 ?_ | refine Le.hit9 ?_ | refine Le.hit10 ?_ | refine Le.skip ?_))) (hDH.els encC_ok (by simp)) hsm (by simp) hs) ?_
      rintro uM CM hM
      refine TL.p (EvP.assign rfl) ?_
      refine TL.p (EvP.assign rfl) ?_
      refine TL.nil ?_
      refine TX.thenN rfl rfl ?_
      refine TC.ret ?_
      refine TX.done rfl (Res.two rfl rfl rfl) (fun w hs => Post1.mk (C := CM) hs ?_ (by repeat (first | exact Le.refl _ | exact Le.nil _ | refine Le.hit ?_ | refine Le.hit1 ?_ | refine Le.hit2 ?_ | refine Le.hit3 ?_ | refine Le.hit4 ?_ | refine Le.hit5 ?_ | refine Le.hit6 ?_ | refine Le.hit7 ?_ | refine Le.hit8 ?_ | refine Le.hit9 ?_ | refine Le.hit10 ?_ | refine Le.skip ?_)))
      rw [exit_ok (by simpa using h10) (by omega)]
      exact ⟨_, rfl, hM⟩

theorem down_spec {w0 w : World} {R : List Chunk} {v : Value} {xs : List Cl} (hT : Tabs w0) (r p : Int) (he : Els (fun w => St w0 w R) v 3 Cl.enc 57 xs) (hsz : xs.length ≤ 4398046511000) (hst : St w0 w R) : Calls Tryd.prog 14 #[.int .i64 r, .int .i64 p, v] w (Post1 w0 R fun u C => ∃ m, u = .tuple #[m, .int .i64 (downM r p xs).2] ∧ Sl 57 3 Cl.enc m (downM r p xs).1 C) := by
  obtain ⟨⟨a, cap, rfl⟩, _⟩ := id he
  refine calls_of (args := [_, _, _]) Tryd.func14 rfl Tryd.ntmps14 hst ?_
  refine TC.seq ?_
  refine TC.region ?_
  refine TL.p (EvP.assign rfl) ?_
  refine TL.p (EvP.assign rfl) ?_
  refine TL.nil ?_
  refine TX.thenN rfl rfl ?_
  refine TC.seq ?_
  refine TC.seq ?_
  refine TC.region ?_
  refine TL.p (EvP.move rfl) ?_
  refine TL.dec (EvP.lt rfl rfl) (fun h11 => ?_) (fun h11 => ?_)
  · refine TL.p (EvP.move rfl) ?_
    refine TL.gN rfl rfl rfl ?_
    refine TL.gN rfl rfl rfl ?_
    refine TL.p (EvP.pickT rfl rfl) ?_
    refine TL.p (EvP.move rfl) ?_
    refine TL.gN rfl rfl rfl ?_
    refine TL.gN rfl rfl rfl ?_
    refine TL.gN rfl rfl rfl ?_
    refine TL.p (EvP.pickT rfl rfl) ?_
    refine TL.nil ?_
    refine TX.thenN rfl rfl ?_
    refine TC.ctrue rfl ?_
    refine TC.seq ?_
    refine TC.region ?_
    refine TL.p (EvP.assign rfl) ?_
    refine TL.p (EvP.assign rfl) ?_
    refine TL.nil ?_
    refine TX.thenN rfl rfl ?_
    refine TC.ret ?_
    refine TX.thenR ?_
    refine TX.done rfl (Res.two rfl rfl rfl) (fun w hs => Post1.mk (C := []) hs ?_ (Le.trans Le.nilC (by repeat (first | exact Le.refl _ | exact Le.nil _ | refine Le.hit ?_ | refine Le.hit1 ?_ | refine Le.hit2 ?_ | refine Le.hit3 ?_ | refine Le.hit4 ?_ | refine Le.hit5 ?_ | refine Le.hit6 ?_ | refine Le.hit7 ?_ | refine Le.hit8 ?_ | refine Le.hit9 ?_ | refine Le.hit10 ?_ | refine Le.skip ?_))))
    rw [down_pid (by first | omega | (right; right; simpa using h20))]
    exact ⟨_, rfl, Sl.nil⟩
  · refine TL.p (EvP.move rfl) ?_
    refine TL.gY rfl rfl rfl ?_
    refine TL.p (EvP.move rfl) ?_
    refine TL.gY rfl rfl rfl ?_
    refine TL.dec (EvP.gt rfl rfl) (fun h14 => ?_) (fun h14 => ?_)
    · refine TL.p (EvP.pickF rfl rfl) ?_
      refine TL.p (EvP.move rfl) ?_
      refine TL.gN rfl rfl rfl ?_
      refine TL.gN rfl rfl rfl ?_
      refine TL.gN rfl rfl rfl ?_
      refine TL.p (EvP.pickT rfl rfl) ?_
      refine TL.nil ?_
      refine TX.thenN rfl rfl ?_
      refine TC.ctrue rfl ?_
      refine TC.seq ?_
      refine TC.region ?_
      refine TL.p (EvP.assign rfl) ?_
      refine TL.p (EvP.assign rfl) ?_
      refine TL.nil ?_
      refine TX.thenN rfl rfl ?_
      refine TC.ret ?_
      refine TX.thenR ?_
      refine TX.done rfl (Res.two rfl rfl rfl) (fun w hs => Post1.mk (C := []) hs ?_ (Le.trans Le.nilC (by repeat (first | exact Le.refl _ | exact Le.nil _ | refine Le.hit ?_ | refine Le.hit1 ?_ | refine Le.hit2 ?_ | refine Le.hit3 ?_ | refine Le.hit4 ?_ | refine Le.hit5 ?_ | refine Le.hit6 ?_ | refine Le.hit7 ?_ | refine Le.hit8 ?_ | refine Le.hit9 ?_ | refine Le.hit10 ?_ | refine Le.skip ?_))))
      rw [down_pid (by first | omega | (right; right; simpa using h20))]
      exact ⟨_, rfl, Sl.nil⟩
    · refine TL.p (EvP.pickF rfl rfl) ?_
      refine TL.p (EvP.move rfl) ?_
      refine TL.gY rfl rfl rfl ?_
      refine TL.p (EvP.move rfl) ?_
      refine TL.gY rfl rfl rfl ?_
      refine TL.callA rfl rfl Tryd.call26 (fun w hs => pid_spec _ hs) ?_
      rintro _ rfl
      refine TL.gY rfl rfl rfl ?_
      refine TL.p (EvP.not rfl) ?_
      refine TL.p (EvP.pickF rfl rfl) ?_
      refine TL.nil ?_
      refine TX.thenN rfl rfl ?_
      refine TC.cond rfl (fun h20 => ?_) (fun h20 => ?_)
      · refine TC.seq ?_
        refine TC.region ?_
        refine TL.p (EvP.assign rfl) ?_
        refine TL.p (EvP.assign rfl) ?_
        refine TL.nil ?_
        refine TX.thenN rfl rfl ?_
        refine TC.ret ?_
        refine TX.thenR ?_
        refine TX.done rfl (Res.two rfl rfl rfl) (fun w hs => Post1.mk (C := []) hs ?_ (Le.trans Le.nilC (by repeat (first | exact Le.refl _ | exact Le.nil _ | refine Le.hit ?_ | refine Le.hit1 ?_ | refine Le.hit2 ?_ | refine Le.hit3 ?_ | refine Le.hit4 ?_ | refine Le.hit5 ?_ | refine Le.hit6 ?_ | refine Le.hit7 ?_ | refine Le.hit8 ?_ | refine Le.hit9 ?_ | refine Le.hit10 ?_ | refine Le.skip ?_))))
        rw [down_pid (by first | omega | (right; right; simpa using h20))]
        exact ⟨_, rfl, Sl.nil⟩
      · refine TC.skip ?_
        refine TX.thenN rfl rfl ?_
        refine TC.seq ?_
        refine TC.seq ?_
        refine TC.region ?_
        refine TL.p (EvP.move rfl) ?_
        refine TL.callA rfl rfl Tryd.call27 (fun w hs => wright_spec hT (he.sub (by repeat (first | exact Le.refl _ | exact Le.nil _ | refine Le.hit ?_ | refine Le.hit1 ?_ | refine Le.hit2 ?_ | refine Le.hit3 ?_ | refine Le.hit4 ?_ | refine Le.hit5 ?_ | refine Le.hit6 ?_ | refine Le.hit7 ?_ | refine Le.hit8 ?_ | refine Le.hit9 ?_ | refine Le.hit10 ?_ | refine Le.skip ?_))) (by omega) hs) ?_
        rintro _ rfl
        refine TL.p (EvP.move rfl) ?_
        refine TL.p (EvP.extract rfl rfl) ?_
        refine TL.p (EvP.extract rfl rfl) ?_
        refine TL.p (EvP.assign rfl) ?_
        refine TL.p (EvP.assign rfl) ?_
        refine TL.nil ?_
        refine TX.thenN rfl rfl ?_
        refine TC.seq ?_
        refine TC.region ?_
        refine TL.p (EvP.move rfl) ?_
        refine TL.dec (EvP.ne rfl rfl) (fun h27 => ?_) (fun h27 => ?_)
        · refine TL.nil ?_
          refine TX.thenN rfl rfl ?_
          refine TC.ctrue rfl ?_
          refine TC.seq ?_
          refine TC.region ?_
          refine TL.p (EvP.move rfl) ?_
          refine TL.p (EvP.assign rfl) ?_
          refine TL.p (EvP.assign rfl) ?_
          refine TL.nil ?_
          refine TX.thenN rfl rfl ?_
          refine TC.ret ?_
          refine TX.thenR ?_
          refine TX.done rfl (Res.two rfl rfl rfl) (fun w hs => Post1.mk (C := []) hs ?_ (Le.trans Le.nilC (by repeat (first | exact Le.refl _ | exact Le.nil _ | refine Le.hit ?_ | refine Le.hit1 ?_ | refine Le.hit2 ?_ | refine Le.hit3 ?_ | refine Le.hit4 ?_ | refine Le.hit5 ?_ | refine Le.hit6 ?_ | refine Le.hit7 ?_ | refine Le.hit8 ?_ | refine Le.hit9 ?_ | refine Le.hit10 ?_ | refine Le.skip ?_))))
          rw [down_bad ⟨by omega, by omega, by simpa using h20⟩ (by omega)]
          exact ⟨_, rfl, Sl.nil⟩
        · refine TL.nil ?_
          refine TX.thenN rfl rfl ?_
          refine TC.cfalse rfl ?_
          refine TC.skip ?_
          refine TX.thenN rfl rfl ?_
          refine TC.seq ?_
          refine TC.region ?_
          have hsm := right_len (xs := xs) (by omega)
          refine TL.p (EvP.move rfl) ?_
          refine TL.p (EvP.buildS (is := [0, 2]) (xs := [_, _]) rfl Tryd.runUnderlying57 Tryd.zeroValue57 rfl (.cons Tryd.sizeOf3 (.cons Tryd.sizeOf2 (.cons Tryd.sizeOf9 .nil))) rfl rfl rfl) ?_
          refine TL.p (EvP.move rfl) ?_
          refine TL.p (EvP.buildS (is := [0, 1]) (xs := [_, _]) rfl Tryd.runUnderlying57 Tryd.zeroValue57 rfl (.cons Tryd.sizeOf3 (.cons Tryd.sizeOf2 (.cons Tryd.sizeOf9 .nil))) rfl rfl rfl) ?_
          refine TL.p (EvP.buildS (is := [0, 2]) (xs := [_, _]) rfl Tryd.runUnderlying57 Tryd.zeroValue57 rfl (.cons Tryd.sizeOf3 (.cons Tryd.sizeOf2 (.cons Tryd.sizeOf9 .nil))) rfl rfl rfl) ?_
          refine TL.p (EvP.move rfl) ?_
          refine TL.p (EvP.buildS (is := [0, 1]) (xs := [_, _]) rfl Tryd.runUnderlying57 Tryd.zeroValue57 rfl (.cons Tryd.sizeOf3 (.cons Tryd.sizeOf2 (.cons Tryd.sizeOf9 .nil))) rfl rfl rfl) ?_
          refine TL.litn (enc := Cl.enc) (xs := [atomC downS, ⟨3, r, []⟩, atomC processS, ⟨4, p, []⟩]) (os := [.tmp 30, .tmp 32, .tmp 33, .tmp 35]) rfl elC Tryd.underlying22 (by decide) rfl rfl (by intro v hv; simp only [List.mem_cons, List.not_mem_nil, or_false] at hv; rcases hv with rfl | rfl | rfl | rfl <;> rfl) rfl (by decide) (fun uDH DH hDH => ?_)
          refine TL.callB rfl rfl Tryd.call34 (fun w hs => tuple_spec (he.sub (by repeat (first | exact Le.refl _ | exact Le.nil _ | refine Le.hit ?_ | refine Le.hit1 ?_ | refine Le.hit2 ?_ | refine Le.hit3 ?_ | refine Le.hit4 ?_ | refine Le.hit5 ?_ | refine Le.hit6 ?_ | refine Le.hit7 ?_ | refine Le.hit8 ?_ | refine Le.hit9 ?_ | refine Le.hit10 ?_ | refine Le.skip ?_))) (hDH.els encC_ok (by simp)) hsm (by simp) hs) ?_
          rintro uM CM hM
          refine TL.p (EvP.assign rfl) ?_
          refine TL.p (EvP.assign rfl) ?_
          refine TL.nil ?_
          refine TX.thenN rfl rfl ?_
          refine TC.ret ?_
          refine TX.done rfl (Res.two rfl rfl rfl) (fun w hs => Post1.mk (C := CM) hs ?_ (by repeat (first | exact Le.refl _ | exact Le.nil _ | refine Le.hit ?_ | refine Le.hit1 ?_ | refine Le.hit2 ?_ | refine Le.hit3 ?_ | refine Le.hit4 ?_ | refine Le.hit5 ?_ | refine Le.hit6 ?_ | refine Le.hit7 ?_ | refine Le.hit8 ?_ | refine Le.hit9 ?_ | refine Le.hit10 ?_ | refine Le.skip ?_)))
          rw [down_ok ⟨by omega, by omega, by simpa using h20⟩ (by omega)]
          exact ⟨_, rfl, hM⟩

theorem rdown_spec {w0 w : World} {R : List Chunk} {v : Value} {xs : List Cl} (r p : Int) (he : Els (fun w => St w0 w R) v 3 Cl.enc 57 xs) (hsz : xs.length ≤ 4398046511000) (hst : St w0 w R) : Calls Tryd.prog 15 #[.int .i64 r, .int .i64 p, v] w (Post1 w0 R fun u C => ∃ m, u = .tuple #[m, .int .i64 (downM r p xs).2] ∧ Sl 57 3 Cl.enc m (downM r p xs).1 C) := by
  obtain ⟨⟨a, cap, rfl⟩, _⟩ := id he
  refine calls_of (args := [_, _, _]) Tryd.func15 rfl Tryd.ntmps15 hst ?_
  refine TC.seq ?_
  refine TC.region ?_
  refine TL.p (EvP.assign rfl) ?_
  refine TL.p (EvP.assign rfl) ?_
  refine TL.nil ?_
  refine TX.thenN rfl rfl ?_
  refine TC.seq ?_
  refine TC.seq ?_
  refine TC.region ?_
  refine TL.p (EvP.move rfl) ?_
  refine TL.dec (EvP.lt rfl rfl) (fun h12 => ?_) (fun h12 => ?_)
  · refine TL.p (EvP.move rfl) ?_
    refine TL.gN rfl rfl rfl ?_
    refine TL.gN rfl rfl rfl ?_
    refine TL.p (EvP.pickT rfl rfl) ?_
    refine TL.p (EvP.move rfl) ?_
    refine TL.gN rfl rfl rfl ?_
    refine TL.gN rfl rfl rfl ?_
    refine TL.gN rfl rfl rfl ?_
    refine TL.p (EvP.pickT rfl rfl) ?_
    refine TL.nil ?_
    refine TX.thenN rfl rfl ?_
    refine TC.ctrue rfl ?_
    refine TC.seq ?_
    refine TC.region ?_
    refine TL.p (EvP.assign rfl) ?_
    refine TL.p (EvP.assign rfl) ?_
    refine TL.nil ?_
    refine TX.thenN rfl rfl ?_
    refine TC.ret ?_
    refine TX.thenR ?_
    refine TX.done rfl (Res.two rfl rfl rfl) (fun w hs => Post1.mk (C := []) hs ?_ (Le.trans Le.nilC (by repeat (first | exact Le.refl _ | exact Le.nil _ | refine Le.hit ?_ | refine Le.hit1 ?_ | refine Le.hit2 ?_ | refine Le.hit3 ?_ | refine Le.hit4 ?_ | refine Le.hit5 ?_ | refine Le.hit6 ?_ | refine Le.hit7 ?_ | refine Le.hit8 ?_ | refine Le.hit9 ?_ | refine Le.hit10 ?_ | refine Le.skip ?_))))
    rw [down_pid (by first | omega | (right; right; simpa using h21))]
    exact ⟨_, rfl, Sl.nil⟩
  · refine TL.p (EvP.move rfl) ?_
    refine TL.gY rfl rfl rfl ?_
    refine TL.p (EvP.move rfl) ?_
    refine TL.gY rfl rfl rfl ?_
    refine TL.dec (EvP.gt rfl rfl) (fun h15 => ?_) (fun h15 => ?_)
    · refine TL.p (EvP.pickF rfl rfl) ?_
      refine TL.p (EvP.move rfl) ?_
      refine TL.gN rfl rfl rfl ?_
      refine TL.gN rfl rfl rfl ?_
      refine TL.gN rfl rfl rfl ?_
      refine TL.p (EvP.pickT rfl rfl) ?_
      refine TL.nil ?_
      refine TX.thenN rfl rfl ?_
      refine TC.ctrue rfl ?_
      refine TC.seq ?_
      refine TC.region ?_
      refine TL.p (EvP.assign rfl) ?_
      refine TL.p (EvP.assign rfl) ?_
      refine TL.nil ?_
      refine TX.thenN rfl rfl ?_
      refine TC.ret ?_
      refine TX.thenR ?_
      refine TX.done rfl (Res.two rfl rfl rfl) (fun w hs => Post1.mk (C := []) hs ?_ (Le.trans Le.nilC (by repeat (first | exact Le.refl _ | exact Le.nil _ | refine Le.hit ?_ | refine Le.hit1 ?_ | refine Le.hit2 ?_ | refine Le.hit3 ?_ | refine Le.hit4 ?_ | refine Le.hit5 ?_ | refine Le.hit6 ?_ | refine Le.hit7 ?_ | refine Le.hit8 ?_ | refine Le.hit9 ?_ | refine Le.hit10 ?_ | refine Le.skip ?_))))
      rw [down_pid (by first | omega | (right; right; simpa using h21))]
      exact ⟨_, rfl, Sl.nil⟩
    · refine TL.p (EvP.pickF rfl rfl) ?_
      refine TL.p (EvP.move rfl) ?_
      refine TL.gY rfl rfl rfl ?_
      refine TL.p (EvP.move rfl) ?_
      refine TL.gY rfl rfl rfl ?_
      refine TL.callA rfl rfl Tryd.call31 (fun w hs => rp_spec _ hs) ?_
      rintro _ rfl
      refine TL.gY rfl rfl rfl ?_
      refine TL.p (EvP.not rfl) ?_
      refine TL.p (EvP.pickF rfl rfl) ?_
      refine TL.nil ?_
      refine TX.thenN rfl rfl ?_
      refine TC.cond rfl (fun h21 => ?_) (fun h21 => ?_)
      · refine TC.seq ?_
        refine TC.region ?_
        refine TL.p (EvP.assign rfl) ?_
        refine TL.p (EvP.assign rfl) ?_
        refine TL.nil ?_
        refine TX.thenN rfl rfl ?_
        refine TC.ret ?_
        refine TX.thenR ?_
        refine TX.done rfl (Res.two rfl rfl rfl) (fun w hs => Post1.mk (C := []) hs ?_ (Le.trans Le.nilC (by repeat (first | exact Le.refl _ | exact Le.nil _ | refine Le.hit ?_ | refine Le.hit1 ?_ | refine Le.hit2 ?_ | refine Le.hit3 ?_ | refine Le.hit4 ?_ | refine Le.hit5 ?_ | refine Le.hit6 ?_ | refine Le.hit7 ?_ | refine Le.hit8 ?_ | refine Le.hit9 ?_ | refine Le.hit10 ?_ | refine Le.skip ?_))))
        rw [down_pid (by first | omega | (right; right; simpa using h21))]
        exact ⟨_, rfl, Sl.nil⟩
      · refine TC.skip ?_
        refine TX.thenN rfl rfl ?_
        refine TC.seq ?_
        refine TC.seq ?_
        refine TC.region ?_
        refine TL.p (EvP.move rfl) ?_
        refine TL.callA rfl rfl Tryd.call32 (fun w hs => rright_spec (he.sub (by repeat (first | exact Le.refl _ | exact Le.nil _ | refine Le.hit ?_ | refine Le.hit1 ?_ | refine Le.hit2 ?_ | refine Le.hit3 ?_ | refine Le.hit4 ?_ | refine Le.hit5 ?_ | refine Le.hit6 ?_ | refine Le.hit7 ?_ | refine Le.hit8 ?_ | refine Le.hit9 ?_ | refine Le.hit10 ?_ | refine Le.skip ?_))) (by omega) hs) ?_
        rintro _ rfl
        refine TL.p (EvP.move rfl) ?_
        refine TL.p (EvP.extract rfl rfl) ?_
        refine TL.p (EvP.extract rfl rfl) ?_
        refine TL.p (EvP.assign rfl) ?_
        refine TL.p (EvP.assign rfl) ?_
        refine TL.nil ?_
        refine TX.thenN rfl rfl ?_
        refine TC.seq ?_
        refine TC.region ?_
        refine TL.p (EvP.move rfl) ?_
        refine TL.dec (EvP.ne rfl rfl) (fun h28 => ?_) (fun h28 => ?_)
        · refine TL.nil ?_
          refine TX.thenN rfl rfl ?_
          refine TC.ctrue rfl ?_
          refine TC.seq ?_
          refine TC.region ?_
          refine TL.p (EvP.move rfl) ?_
          refine TL.p (EvP.assign rfl) ?_
          refine TL.p (EvP.assign rfl) ?_
          refine TL.nil ?_
          refine TX.thenN rfl rfl ?_
          refine TC.ret ?_
          refine TX.thenR ?_
          refine TX.done rfl (Res.two rfl rfl rfl) (fun w hs => Post1.mk (C := []) hs ?_ (Le.trans Le.nilC (by repeat (first | exact Le.refl _ | exact Le.nil _ | refine Le.hit ?_ | refine Le.hit1 ?_ | refine Le.hit2 ?_ | refine Le.hit3 ?_ | refine Le.hit4 ?_ | refine Le.hit5 ?_ | refine Le.hit6 ?_ | refine Le.hit7 ?_ | refine Le.hit8 ?_ | refine Le.hit9 ?_ | refine Le.hit10 ?_ | refine Le.skip ?_))))
          rw [down_bad ⟨by omega, by omega, by simpa using h21⟩ (by omega)]
          exact ⟨_, rfl, Sl.nil⟩
        · refine TL.nil ?_
          refine TX.thenN rfl rfl ?_
          refine TC.cfalse rfl ?_
          refine TC.skip ?_
          refine TX.thenN rfl rfl ?_
          refine TC.seq ?_
          refine TC.region ?_
          have hsm := right_len (xs := xs) (by omega)
          refine TL.p (EvP.buildS (is := [0, 1]) (xs := [_, _]) rfl Tryd.runUnderlying57 Tryd.zeroValue57 rfl (.cons Tryd.sizeOf3 (.cons Tryd.sizeOf2 (.cons Tryd.sizeOf9 .nil))) rfl rfl rfl) ?_
          refine TL.callA rfl rfl Tryd.call33 (fun w hs => ratom_spec downS hs) ?_
          rintro _ rfl
          refine TL.p (EvP.move rfl) ?_
          refine TL.p (EvP.buildS (is := [0, 1]) (xs := [_, _]) rfl Tryd.runUnderlying57 Tryd.zeroValue57 rfl (.cons Tryd.sizeOf3 (.cons Tryd.sizeOf2 (.cons Tryd.sizeOf9 .nil))) rfl rfl rfl) ?_
          refine TL.callA rfl rfl Tryd.call33 (fun w hs => ratom_spec processS hs) ?_
          rintro _ rfl
          refine TL.p (EvP.move rfl) ?_
          refine TL.p (EvP.buildS (is := [0, 1]) (xs := [_, _]) rfl Tryd.runUnderlying57 Tryd.zeroValue57 rfl (.cons Tryd.sizeOf3 (.cons Tryd.sizeOf2 (.cons Tryd.sizeOf9 .nil))) rfl rfl rfl) ?_
          refine TL.litn (enc := Cl.enc) (xs := [⟨5, 5, []⟩, atomC downS, ⟨3, r, []⟩, atomC processS, ⟨4, p, []⟩]) (os := [.tmp 30, .tmp 31, .tmp 33, .tmp 34, .tmp 36]) rfl elC Tryd.underlying22 (by decide) rfl rfl (by intro v hv; simp only [List.mem_cons, List.not_mem_nil, or_false] at hv; rcases hv with rfl | rfl | rfl | rfl | rfl <;> rfl) rfl (by decide) (fun uDH DH hDH => ?_)
          refine TL.p (EvP.assign rfl) ?_
          refine TL.nil ?_
          refine TX.thenN rfl rfl ?_
          refine TC.seq ?_
          refine TC.region ?_
          refine TL.p (EvP.move rfl) ?_
          refine TL.p (EvP.move rfl) ?_
          refine TL.callB rfl rfl Tryd.call35 (fun w hs => told_spec (he.sub (by repeat (first | exact Le.refl _ | exact Le.nil _ | refine Le.hit ?_ | refine Le.hit1 ?_ | refine Le.hit2 ?_ | refine Le.hit3 ?_ | refine Le.hit4 ?_ | refine Le.hit5 ?_ | refine Le.hit6 ?_ | refine Le.hit7 ?_ | refine Le.hit8 ?_ | refine Le.hit9 ?_ | refine Le.hit10 ?_ | refine Le.skip ?_))) (hDH.els encC_ok (by simp)) hsm (by simp) hs) ?_
          rintro uM CM hM
          refine TL.p (EvP.assign rfl) ?_
          refine TL.p (EvP.assign rfl) ?_
          refine TL.nil ?_
          refine TX.thenN rfl rfl ?_
          refine TC.ret ?_
          refine TX.done rfl (Res.two rfl rfl rfl) (fun w hs => Post1.mk (C := CM) hs ?_ (by repeat (first | exact Le.refl _ | exact Le.nil _ | refine Le.hit ?_ | refine Le.hit1 ?_ | refine Le.hit2 ?_ | refine Le.hit3 ?_ | refine Le.hit4 ?_ | refine Le.hit5 ?_ | refine Le.hit6 ?_ | refine Le.hit7 ?_ | refine Le.hit8 ?_ | refine Le.hit9 ?_ | refine Le.hit10 ?_ | refine Le.skip ?_)))
          rw [down_ok ⟨by omega, by omega, by simpa using h21⟩ (by omega)]
          exact ⟨_, rfl, hM⟩
end Go.Proofs.YtdbpandamnkpdaaDoor
