/-
  Walks of the document's own graph: places.
-/
import Derived.Test.YtdbpandamnkpdaaDoorLf
set_option linter.unusedSimpArgs false
set_option linter.unusedVariables false
namespace Go.Proofs.YtdbpandamnkpdaaDoor
open Go Go.RowKit

/-- Where the first bond stands that passes; -1: none does. -/
def posA (p : Bond → Bool) : List Bond → Int → Int
  | [], _ => -1
  | x :: xs, i => if p x = true then i else posA p xs (i + 1)
def pos (p : Bond → Bool) (L : List Bond) : Int := posA p L 0
theorem drop_cons {α : Type} {L : List α} {i : Nat} {x : α} (hx : L[i]? = some x) : L.drop i = x :: L.drop (i + 1) := by
  have hlt := (List.getElem?_eq_some_iff.1 hx).1
  rw [← (List.getElem?_eq_some_iff.1 hx).2, ← List.drop_eq_getElem_cons hlt]
theorem posA_yes {p : Bond → Bool} {L : List Bond} {i : Nat} {x : Bond} (hx : L[i]? = some x) (hp : p x = true) : posA p (L.drop i) i = i := by rw [drop_cons hx]; simp [posA, hp]
theorem posA_no {p : Bond → Bool} {L : List Bond} {i : Nat} {x : Bond} (hx : L[i]? = some x) (hp : p x = false) : posA p (L.drop i) i = posA p (L.drop (i + 1)) ((i + 1 : Nat) : Int) := by rw [drop_cons hx]; simp [posA, hp]
theorem posA_ge {p : Bond → Bool} : ∀ {L : List Bond} {i : Int}, 0 ≤ i → (posA p L i = -1 ∧ L.find? p = none ∧ ∀ x ∈ L, p x = false) ∨ ∃ k : Nat, posA p L i = i + k ∧ ∃ x, L[k]? = some x ∧ p x = true ∧ L.find? p = some x ∧ L.eraseP p = L.eraseIdx k
  | [], i, _ => .inl ⟨rfl, rfl, by simp⟩
  | y :: L, i, h => by
    by_cases hp : p y = true
    · exact .inr ⟨0, by simp [posA, hp], y, rfl, hp, by simp [hp], by simp [hp]⟩
    · rcases posA_ge (p := p) (L := L) (i := i + 1) (by omega) with ⟨h1, h2, h3⟩ | ⟨k, h1, x, h2, h3, h4, h5⟩
      · exact .inl ⟨by simp [posA, hp, h1], by simp [hp, h2], by simp [hp]; exact fun x hx => by simpa using h3 x hx⟩
      · refine .inr ⟨k + 1, by simp only [posA, hp, if_false, h1, Bool.false_eq_true]; omega, x, by simpa using h2, h3, by simp [hp, h4], by simp [hp, h5]⟩
theorem eqBond {Lf : Fl} {t u : Nat} {ty ty' : TypeId} (x b : Bond) (hx : ev Lf (.tmp t) = some x.v := by rfl) (hb : ev Lf (.tmp u) = some b.v := by rfl) : EvP Tryd.prog (.binOp .eql 78 (.tmp t) (.tmp u) ty') ty Lf (.bool (decide (x = b))) := by
  refine EvP.eqStruct (xs := x.enc) (ys := b.enc) hx hb Tryd.underlying78 (by kernel_rfl) Tryd.eqGuardType78
    (.cons (by decide) Tryd.isAgg2 rfl rfl (eqIntIn Tryd.runUnderlying2) (.cons (by decide) Tryd.isAgg2 rfl rfl (eqIntIn Tryd.runUnderlying2) (.cons (by decide) Tryd.isAgg2 rfl rfl (eqIntIn Tryd.runUnderlying2) .nil))) ?_
  rw [Bool.eq_iff_iff]
  cases x; cases b
  simp [Bond.mk.injEq]

theorem rPid_spec {w0 w : World} {R : List Chunk} (n : Int) (hst : St w0 w R) : Calls Tryd.prog 31 #[.int .i64 n] w (Post0 w0 R fun v => v = .bool (okPid n)) := by
  refine calls_of (args := [_]) Tryd.func31 rfl Tryd.ntmps31 hst ?_
  refine TC.seq ?_
  refine TC.region ?_
  refine TL.p (EvP.assign rfl) ?_
  refine TL.nil ?_
  refine TX.thenN rfl rfl ?_
  refine TC.seq ?_
  refine TC.region ?_
  refine TL.p (EvP.move rfl) ?_
  refine TL.dec (EvP.ge rfl rfl) (fun h4 => ?_) (fun h4 => ?_)
  · refine TL.p (EvP.move rfl) ?_
    refine TL.gY rfl rfl rfl ?_
    refine TL.p (EvP.move rfl) ?_
    refine TL.gY rfl rfl rfl ?_
    refine TL.p (EvP.le rfl rfl) ?_
    refine TL.p (EvP.pickT rfl rfl) ?_
    refine TL.p (EvP.assign rfl) ?_
    refine TL.nil ?_
    refine TX.thenN rfl rfl ?_
    refine TC.ret ?_
    refine TX.done rfl (Res.one rfl rfl) (fun w hs => Post0.mk hs ?_ (by repeat (first | exact Le.refl _ | exact Le.nil _ | refine Le.hit ?_ | refine Le.hit1 ?_ | refine Le.hit2 ?_ | refine Le.hit3 ?_ | refine Le.hit4 ?_ | refine Le.hit5 ?_ | refine Le.hit6 ?_ | refine Le.hit7 ?_ | refine Le.hit8 ?_ | refine Le.hit9 ?_ | refine Le.hit10 ?_ | refine Le.skip ?_)))
    simp [okPid]; omega
  · refine TL.p (EvP.move rfl) ?_
    refine TL.gN rfl rfl rfl ?_
    refine TL.gN rfl rfl rfl ?_
    refine TL.p (EvP.pickF rfl rfl) ?_
    refine TL.p (EvP.assign rfl) ?_
    refine TL.nil ?_
    refine TX.thenN rfl rfl ?_
    refine TC.ret ?_
    refine TX.done rfl (Res.one rfl rfl) (fun w hs => Post0.mk hs ?_ (by repeat (first | exact Le.refl _ | exact Le.nil _ | refine Le.hit ?_ | refine Le.hit1 ?_ | refine Le.hit2 ?_ | refine Le.hit3 ?_ | refine Le.hit4 ?_ | refine Le.hit5 ?_ | refine Le.hit6 ?_ | refine Le.hit7 ?_ | refine Le.hit8 ?_ | refine Le.hit9 ?_ | refine Le.hit10 ?_ | refine Le.skip ?_)))
    simp [okPid]; omega

theorem rPid_yes {w0 w : World} {R : List Chunk} {n : Int} (h : okPid n = true) (hst : St w0 w R) : Calls Tryd.prog 31 #[.int .i64 n] w (Post0 w0 R fun v => v = .bool true) := by
  have := rPid_spec n hst
  rwa [h] at this
theorem rPid_no {w0 w : World} {R : List Chunk} {n : Int} (h : okPid n = false) (hst : St w0 w R) : Calls Tryd.prog 31 #[.int .i64 n] w (Post0 w0 R fun v => v = .bool false) := by
  have := rPid_spec n hst
  rwa [h] at this

theorem rpair_spec {w0 w : World} {R : List Chunk} (a b : Int) (hst : St w0 w R) : Calls Tryd.prog 64 #[.int .i64 a, .int .i64 b] w (Post0 w0 R fun v => v = (pairB a b).v) := by
  refine calls_of (args := [_, _]) Tryd.func64 rfl Tryd.ntmps64 hst ?_
  refine TC.seq ?_
  refine TC.region ?_
  refine TL.alloc Tryd.zeroValue78 rfl (fun b4 => ?_)
  refine TL.nil ?_
  refine TX.thenN rfl rfl ?_
  refine TC.seq ?_
  refine TC.seq ?_
  refine TC.region ?_
  refine TL.p (EvP.move rfl) ?_
  refine TL.p (EvP.move rfl) ?_
  refine TL.dec (EvP.gt rfl rfl) (fun h7 => ?_) (fun h7 => ?_)
  · refine TL.nil ?_
    refine TX.thenN rfl rfl ?_
    refine TC.ctrue rfl ?_
    refine TC.region ?_
    refine TL.p (EvP.move rfl) ?_
    refine TL.p (EvP.move rfl) ?_
    refine TL.p (EvP.assign rfl) ?_
    refine TL.p (EvP.assign rfl) ?_
    refine TL.nil ?_
    refine TX.thenN rfl rfl ?_
    refine TC.seq ?_
    refine TC.region ?_
    refine TL.p (EvP.move rfl) ?_
    refine TL.p (EvP.move rfl) ?_
    refine TL.p (EvP.buildS (is := [0, 1]) (xs := [_, _]) rfl Tryd.runUnderlying78 Tryd.zeroValue78 rfl (.cons Tryd.sizeOf2 (.cons Tryd.sizeOf2 (.cons Tryd.sizeOf2 .nil))) rfl rfl rfl) ?_
    refine TL.u (EvU.store rfl rfl Tryd.sizeOf78 rfl rfl rfl rfl (by repeat (first | exact Has.hd | refine Has.tlb ?_ | refine Has.tlc ?_)) (by repeat (first | exact SetLs.nil | exact SetL.here | apply SetLs.cons | apply SetL.there)) (by repeat (first | exact Upd.hd | apply Upd.tlb | apply Upd.tlc))) ?_
    refine TL.nil ?_
    refine TX.thenN rfl rfl ?_
    refine TC.ret ?_
    refine TX.done rfl (Res.c rfl rfl (run_loadN (vs := [_, _, _]) Tryd.isAgg78 Tryd.sizeOf78 (AtB.own (by repeat (first | exact Has.hd | refine Has.tlb ?_ | refine Has.tlc ?_))) (by exact ⟨rfl, rfl, rfl, trivial⟩))) (fun w hs => Post0.mk hs ?_ (by repeat (first | exact Le.refl _ | exact Le.nil _ | refine Le.hit ?_ | refine Le.hit1 ?_ | refine Le.hit2 ?_ | refine Le.hit3 ?_ | refine Le.hit4 ?_ | refine Le.hit5 ?_ | refine Le.hit6 ?_ | refine Le.hit7 ?_ | refine Le.hit8 ?_ | refine Le.hit9 ?_ | refine Le.hit10 ?_ | refine Le.skip ?_)))
    rw [show pairB a b = ⟨b, a, 0⟩ from by simp only [pairB, Bond.mk.injEq, and_true]; omega]; rfl
  · refine TL.nil ?_
    refine TX.thenN rfl rfl ?_
    refine TC.cfalse rfl ?_
    refine TC.skip ?_
    refine TX.thenN rfl rfl ?_
    refine TC.seq ?_
    refine TC.region ?_
    refine TL.p (EvP.move rfl) ?_
    refine TL.p (EvP.move rfl) ?_
    refine TL.p (EvP.buildS (is := [0, 1]) (xs := [_, _]) rfl Tryd.runUnderlying78 Tryd.zeroValue78 rfl (.cons Tryd.sizeOf2 (.cons Tryd.sizeOf2 (.cons Tryd.sizeOf2 .nil))) rfl rfl rfl) ?_
    refine TL.u (EvU.store rfl rfl Tryd.sizeOf78 rfl rfl rfl rfl (by repeat (first | exact Has.hd | refine Has.tlb ?_ | refine Has.tlc ?_)) (by repeat (first | exact SetLs.nil | exact SetL.here | apply SetLs.cons | apply SetL.there)) (by repeat (first | exact Upd.hd | apply Upd.tlb | apply Upd.tlc))) ?_
    refine TL.nil ?_
    refine TX.thenN rfl rfl ?_
    refine TC.ret ?_
    refine TX.done rfl (Res.c rfl rfl (run_loadN (vs := [_, _, _]) Tryd.isAgg78 Tryd.sizeOf78 (AtB.own (by repeat (first | exact Has.hd | refine Has.tlb ?_ | refine Has.tlc ?_))) (by exact ⟨rfl, rfl, rfl, trivial⟩))) (fun w hs => Post0.mk hs ?_ (by repeat (first | exact Le.refl _ | exact Le.nil _ | refine Le.hit ?_ | refine Le.hit1 ?_ | refine Le.hit2 ?_ | refine Le.hit3 ?_ | refine Le.hit4 ?_ | refine Le.hit5 ?_ | refine Le.hit6 ?_ | refine Le.hit7 ?_ | refine Le.hit8 ?_ | refine Le.hit9 ?_ | refine Le.hit10 ?_ | refine Le.skip ?_)))
    rw [show pairB a b = ⟨a, b, 0⟩ from by simp only [pairB, Bond.mk.injEq, and_true]; omega]; rfl

theorem rplace_spec {w0 w : World} {R : List Chunk} {rr : Nat} {a : Option Addr} {cap : Nat} {L : List Bond} {D : Chunk} (b : Bond) (hv : Sl 78 3 Bond.enc (.slice a L.length cap) L D) (hlen : L.length ≤ 1024) (hst : St w0 w ([(rr, .cells [(.slice a L.length cap)].toArray 80 (0, 0))] :: D :: R)) : Calls Tryd.prog 63 #[.pointer (some ⟨rr, 0, none⟩), b.v] w (Post0 w0 ([(rr, .cells [(.slice a L.length cap)].toArray 80 (0, 0))] :: D :: R) fun v => v = .int .i64 (pos (fun x => decide (x = b)) L)) := by
  refine calls_of (args := [_, _]) Tryd.func63 rfl Tryd.ntmps63 hst ?_
  refine TC.seq ?_
  refine TC.region ?_
  refine TL.box rfl rfl (fun b3 => ?_)
  refine TL.p (EvP.assign rfl) ?_
  refine TL.nil ?_
  refine TX.thenN rfl rfl ?_
  refine TC.seq ?_
  refine TC.seq ?_
  refine TC.region ?_
  refine TL.p (EvP.move rfl) ?_
  refine TL.p (EvP.nilP rfl) ?_
  refine TL.p (EvP.fa (e := 0) rfl Tryd.runUnderlying80 rfl Tryd.sizeOf71 rfl) ?_
  refine TL.r (EvR.load rfl Tryd.isAgg71 (AtB.own (by repeat (first | exact Has.hd | refine Has.tlb ?_ | refine Has.tlc ?_))) (by rfl)) ?_
  refine TL.p (EvP.lenS Tryd.runUnderlying71 rfl) ?_
  refine TL.p (EvP.move rfl) ?_
  refine TL.nil ?_
  refine TX.thenN rfl rfl ?_
  refine TC.block ?_
  refine TC.loop (ι := Nat) (fun i => [(10, (.slice a L.length cap)), (11, .int .i64 L.length), (12, .int .i64 i), (3, .pointer (some ⟨b3, 0, none⟩))]) (fun i => [(b3, .cells b.enc.toArray 78 (0, 0))] :: [(rr, .cells [(.slice a L.length cap)].toArray 80 (0, 0))] :: D :: R) (fun i => i ≤ L.length ∧ pos (fun x => decide (x = b)) L = posA (fun x => decide (x = b)) (L.drop i) i) (fun i => L.length - i) (0) (⟨Nat.zero_le _, rfl⟩) ⟨rfl, rfl, rfl, rfl, trivial⟩ (by repeat (first | exact Le.refl _ | exact Le.nil _ | refine Le.hit ?_ | refine Le.hit1 ?_ | refine Le.hit2 ?_ | refine Le.hit3 ?_ | refine Le.hit4 ?_ | refine Le.hit5 ?_ | refine Le.hit6 ?_ | refine Le.hit7 ?_ | refine Le.hit8 ?_ | refine Le.hit9 ?_ | refine Le.hit10 ?_ | refine Le.skip ?_)) ?_
  rintro i ⟨hi, hi2⟩
  change TC _ _ [(10, (.slice a L.length cap)), (11, .int .i64 L.length), (12, .int .i64 i), (3, .pointer (some ⟨b3, 0, none⟩))] ([(b3, .cells b.enc.toArray 78 (0, 0))] :: [(rr, .cells [(.slice a L.length cap)].toArray 80 (0, 0))] :: D :: R) _
  refine TC.seq ?_
  refine TC.region ?_
  refine TL.dec (EvP.lt rfl rfl) (fun h13 => ?_) (fun h13 => ?_)
  · refine TL.nil ?_
    refine TX.thenN rfl rfl ?_
    refine TC.seq ?_
    refine TC.ctrue rfl ?_
    refine TC.skip ?_
    refine TX.thenN rfl rfl ?_
    refine TC.seq ?_
    refine TC.block ?_
    refine TC.seq ?_
    refine TC.region ?_
    refine TL.p (EvP.move rfl) ?_
    have hlt : i < L.length := by omega
    obtain ⟨x, hx⟩ : ∃ x, L[i]? = some x := ⟨_, List.getElem?_eq_getElem hlt⟩
    refine TL.elem (hv.el encB_ok hx (by simp)) Tryd.runUnderlying71 Tryd.sizeOf78 rfl rfl (fun bE oE lE _ _ hE hcE => ?_)
    refine TL.r (EvR.loadN (vs := [_, _, _]) rfl Tryd.isAgg78 Tryd.sizeOf78 hE hcE) ?_
    refine TL.alloc Tryd.zeroValue78 rfl (fun b6 => ?_)
    refine TL.p (EvP.assign rfl) ?_
    refine TL.u (EvU.store rfl rfl Tryd.sizeOf78 rfl rfl rfl rfl (by repeat (first | exact Has.hd | refine Has.tlb ?_ | refine Has.tlc ?_)) (by repeat (first | exact SetLs.nil | exact SetL.here | apply SetLs.cons | apply SetL.there)) (by repeat (first | exact Upd.hd | apply Upd.tlb | apply Upd.tlc))) ?_
    refine TL.nil ?_
    refine TX.thenN rfl rfl ?_
    refine TC.seq ?_
    refine TC.region ?_
    refine TL.r (EvR.loadN (vs := [_, _, _]) rfl Tryd.isAgg78 Tryd.sizeOf78 (AtB.own (by repeat (first | exact Has.hd | refine Has.tlb ?_ | refine Has.tlc ?_))) (by exact ⟨rfl, rfl, rfl,  trivial⟩)) ?_
    refine TL.r (EvR.loadN (vs := [_, _, _]) rfl Tryd.isAgg78 Tryd.sizeOf78 (AtB.own (by repeat (first | exact Has.hd | refine Has.tlb ?_ | refine Has.tlc ?_))) (by exact ⟨rfl, rfl, rfl,  trivial⟩)) ?_
    refine TL.dec (eqBond x b) (fun h19 => ?_) (fun h19 => ?_)
    · refine TL.nil ?_
      refine TX.thenN rfl rfl ?_
      refine TC.ctrue rfl ?_
      refine TC.seq ?_
      refine TC.region ?_
      have hp : (fun x => decide (x = b)) x = true := by simp_all [isRef]
      refine TL.p (EvP.move rfl) ?_
      refine TL.p (EvP.assign rfl) ?_
      refine TL.nil ?_
      refine TX.thenN rfl rfl ?_
      refine TC.ret ?_
      refine TX.blkR ?_
      refine TX.thenR ?_
      refine TX.thenR ?_
      refine TX.blkR ?_
      refine TX.thenR ?_
      refine TX.done rfl (Res.one rfl rfl) (fun w hs => Post0.mk hs ?_ (by repeat (first | exact Le.refl _ | exact Le.nil _ | refine Le.hit ?_ | refine Le.hit1 ?_ | refine Le.hit2 ?_ | refine Le.hit3 ?_ | refine Le.hit4 ?_ | refine Le.hit5 ?_ | refine Le.hit6 ?_ | refine Le.hit7 ?_ | refine Le.hit8 ?_ | refine Le.hit9 ?_ | refine Le.hit10 ?_ | refine Le.skip ?_)))
      rw [hi2, posA_yes hx hp]
    · refine TL.nil ?_
      refine TX.thenN rfl rfl ?_
      refine TC.cfalse rfl ?_
      refine TC.skip ?_
      refine TX.blkN ?_
      refine TX.thenN rfl rfl ?_
      refine TC.region ?_
      have hp : (fun x => decide (x = b)) x = false := by simp_all [isRef]
      refine TL.p (EvP.add rfl rfl (by omega)) ?_
      refine TL.p (EvP.move rfl) ?_
      refine TL.nil ?_
      refine TX.back (i + 1) (⟨by omega, by rw [hi2, posA_no hx hp]⟩) (by omega) ⟨rfl, rfl, rfl, rfl, trivial⟩ (by repeat (first | exact Le.refl _ | exact Le.nil _ | refine Le.hit ?_ | refine Le.hit1 ?_ | refine Le.hit2 ?_ | refine Le.hit3 ?_ | refine Le.hit4 ?_ | refine Le.hit5 ?_ | refine Le.hit6 ?_ | refine Le.hit7 ?_ | refine Le.hit8 ?_ | refine Le.hit9 ?_ | refine Le.hit10 ?_ | refine Le.skip ?_))
  · refine TL.nil ?_
    refine TX.thenN rfl rfl ?_
    refine TC.seq ?_
    refine TC.cfalse rfl ?_
    refine TC.exit ?_
    refine TX.thenE ?_
    refine TX.thenE ?_
    refine TX.blkH ?_
    refine TX.thenN rfl rfl ?_
    refine TC.seq ?_
    refine TC.region ?_
    refine TL.p (EvP.assign rfl) ?_
    refine TL.nil ?_
    refine TX.thenN rfl rfl ?_
    refine TC.ret ?_
    refine TX.done rfl (Res.one rfl rfl) (fun w hs => Post0.mk hs ?_ (by repeat (first | exact Le.refl _ | exact Le.nil _ | refine Le.hit ?_ | refine Le.hit1 ?_ | refine Le.hit2 ?_ | refine Le.hit3 ?_ | refine Le.hit4 ?_ | refine Le.hit5 ?_ | refine Le.hit6 ?_ | refine Le.hit7 ?_ | refine Le.hit8 ?_ | refine Le.hit9 ?_ | refine Le.hit10 ?_ | refine Le.skip ?_)))
    rw [hi2, List.drop_eq_nil_of_le (by omega)]; rfl

theorem rwatch_spec {w0 w : World} {R : List Chunk} {rr : Nat} {a : Option Addr} {cap : Nat} {L : List Bond} {D : Chunk} (r : Int) (hv : Sl 78 3 Bond.enc (.slice a L.length cap) L D) (hlen : L.length ≤ 1024) (hst : St w0 w ([(rr, .cells [(.slice a L.length cap)].toArray 80 (0, 0))] :: D :: R)) : Calls Tryd.prog 62 #[.pointer (some ⟨rr, 0, none⟩), .int .i64 r] w (Post0 w0 ([(rr, .cells [(.slice a L.length cap)].toArray 80 (0, 0))] :: D :: R) fun v => v = .int .i64 (pos (isRef r) L)) := by
  refine calls_of (args := [_, _]) Tryd.func62 rfl Tryd.ntmps62 hst ?_
  refine TC.seq ?_
  refine TC.region ?_
  refine TL.p (EvP.assign rfl) ?_
  refine TL.nil ?_
  refine TX.thenN rfl rfl ?_
  refine TC.seq ?_
  refine TC.seq ?_
  refine TC.region ?_
  refine TL.p (EvP.move rfl) ?_
  refine TL.p (EvP.nilP rfl) ?_
  refine TL.p (EvP.fa (e := 0) rfl Tryd.runUnderlying80 rfl Tryd.sizeOf71 rfl) ?_
  refine TL.r (EvR.load rfl Tryd.isAgg71 (AtB.own (by repeat (first | exact Has.hd | refine Has.tlb ?_ | refine Has.tlc ?_))) (by rfl)) ?_
  refine TL.p (EvP.lenS Tryd.runUnderlying71 rfl) ?_
  refine TL.p (EvP.move rfl) ?_
  refine TL.nil ?_
  refine TX.thenN rfl rfl ?_
  refine TC.block ?_
  refine TC.loop (ι := Nat) (fun i => [(10, (.slice a L.length cap)), (11, .int .i64 L.length), (12, .int .i64 i), (1, .int .i64 r)]) (fun i => [(rr, .cells [(.slice a L.length cap)].toArray 80 (0, 0))] :: D :: R) (fun i => i ≤ L.length ∧ pos (isRef r) L = posA (isRef r) (L.drop i) i) (fun i => L.length - i) (0) (⟨Nat.zero_le _, rfl⟩) ⟨rfl, rfl, rfl, rfl, trivial⟩ (by repeat (first | exact Le.refl _ | exact Le.nil _ | refine Le.hit ?_ | refine Le.hit1 ?_ | refine Le.hit2 ?_ | refine Le.hit3 ?_ | refine Le.hit4 ?_ | refine Le.hit5 ?_ | refine Le.hit6 ?_ | refine Le.hit7 ?_ | refine Le.hit8 ?_ | refine Le.hit9 ?_ | refine Le.hit10 ?_ | refine Le.skip ?_)) ?_
  rintro i ⟨hi, hi2⟩
  change TC _ _ [(10, (.slice a L.length cap)), (11, .int .i64 L.length), (12, .int .i64 i), (1, .int .i64 r)] ([(rr, .cells [(.slice a L.length cap)].toArray 80 (0, 0))] :: D :: R) _
  refine TC.seq ?_
  refine TC.region ?_
  refine TL.dec (EvP.lt rfl rfl) (fun h13 => ?_) (fun h13 => ?_)
  · refine TL.nil ?_
    refine TX.thenN rfl rfl ?_
    refine TC.seq ?_
    refine TC.ctrue rfl ?_
    refine TC.skip ?_
    refine TX.thenN rfl rfl ?_
    refine TC.seq ?_
    refine TC.block ?_
    refine TC.seq ?_
    refine TC.region ?_
    refine TL.p (EvP.move rfl) ?_
    have hlt : i < L.length := by omega
    obtain ⟨x, hx⟩ : ∃ x, L[i]? = some x := ⟨_, List.getElem?_eq_getElem hlt⟩
    refine TL.elem (hv.el encB_ok hx (by simp)) Tryd.runUnderlying71 Tryd.sizeOf78 rfl rfl (fun bE oE lE _ _ hE hcE => ?_)
    refine TL.r (EvR.loadN (vs := [_, _, _]) rfl Tryd.isAgg78 Tryd.sizeOf78 hE hcE) ?_
    refine TL.alloc Tryd.zeroValue78 rfl (fun b6 => ?_)
    refine TL.p (EvP.assign rfl) ?_
    refine TL.u (EvU.store rfl rfl Tryd.sizeOf78 rfl rfl rfl rfl (by repeat (first | exact Has.hd | refine Has.tlb ?_ | refine Has.tlc ?_)) (by repeat (first | exact SetLs.nil | exact SetL.here | apply SetLs.cons | apply SetL.there)) (by repeat (first | exact Upd.hd | apply Upd.tlb | apply Upd.tlc))) ?_
    refine TL.nil ?_
    refine TX.thenN rfl rfl ?_
    refine TC.seq ?_
    refine TC.region ?_
    refine TL.p (EvP.fa (e := 2) rfl Tryd.runUnderlying78 rfl Tryd.sizeOf2 rfl) ?_
    refine TL.r (EvR.load rfl Tryd.isAgg2 (AtB.own (by repeat (first | exact Has.hd | refine Has.tlb ?_ | refine Has.tlc ?_))) (by rfl)) ?_
    refine TL.p (EvP.move rfl) ?_
    refine TL.dec (EvP.eq rfl rfl) (fun h20 => ?_) (fun h20 => ?_)
    · refine TL.p (EvP.move rfl) ?_
      refine TL.gY rfl rfl rfl ?_
      refine TL.p (EvP.move rfl) ?_
      refine TL.gY rfl rfl rfl ?_
      refine TL.dec (EvP.gt rfl rfl) (fun h23 => ?_) (fun h23 => ?_)
      · refine TL.p (EvP.pickT rfl rfl) ?_
        refine TL.nil ?_
        refine TX.thenN rfl rfl ?_
        refine TC.ctrue rfl ?_
        refine TC.seq ?_
        refine TC.region ?_
        have hp : (isRef r) x = true := by simp_all [isRef]
        refine TL.p (EvP.move rfl) ?_
        refine TL.p (EvP.assign rfl) ?_
        refine TL.nil ?_
        refine TX.thenN rfl rfl ?_
        refine TC.ret ?_
        refine TX.blkR ?_
        refine TX.thenR ?_
        refine TX.thenR ?_
        refine TX.blkR ?_
        refine TX.thenR ?_
        refine TX.done rfl (Res.one rfl rfl) (fun w hs => Post0.mk hs ?_ (by repeat (first | exact Le.refl _ | exact Le.nil _ | refine Le.hit ?_ | refine Le.hit1 ?_ | refine Le.hit2 ?_ | refine Le.hit3 ?_ | refine Le.hit4 ?_ | refine Le.hit5 ?_ | refine Le.hit6 ?_ | refine Le.hit7 ?_ | refine Le.hit8 ?_ | refine Le.hit9 ?_ | refine Le.hit10 ?_ | refine Le.skip ?_)))
        rw [hi2, posA_yes hx hp]
      · refine TL.p (EvP.pickT rfl rfl) ?_
        refine TL.nil ?_
        refine TX.thenN rfl rfl ?_
        refine TC.cfalse rfl ?_
        refine TC.skip ?_
        refine TX.blkN ?_
        refine TX.thenN rfl rfl ?_
        refine TC.region ?_
        have hp : (isRef r) x = false := by simp_all [isRef]
        refine TL.p (EvP.add rfl rfl (by omega)) ?_
        refine TL.p (EvP.move rfl) ?_
        refine TL.nil ?_
        refine TX.back (i + 1) (⟨by omega, by rw [hi2, posA_no hx hp]⟩) (by omega) ⟨rfl, rfl, rfl, rfl, trivial⟩ (by repeat (first | exact Le.refl _ | exact Le.nil _ | refine Le.hit ?_ | refine Le.hit1 ?_ | refine Le.hit2 ?_ | refine Le.hit3 ?_ | refine Le.hit4 ?_ | refine Le.hit5 ?_ | refine Le.hit6 ?_ | refine Le.hit7 ?_ | refine Le.hit8 ?_ | refine Le.hit9 ?_ | refine Le.hit10 ?_ | refine Le.skip ?_))
    · refine TL.p (EvP.move rfl) ?_
      refine TL.gN rfl rfl rfl ?_
      refine TL.gN rfl rfl rfl ?_
      refine TL.p (EvP.pickF rfl rfl) ?_
      refine TL.nil ?_
      refine TX.thenN rfl rfl ?_
      refine TC.cfalse rfl ?_
      refine TC.skip ?_
      refine TX.blkN ?_
      refine TX.thenN rfl rfl ?_
      refine TC.region ?_
      have hp : (isRef r) x = false := by simp_all [isRef]
      refine TL.p (EvP.add rfl rfl (by omega)) ?_
      refine TL.p (EvP.move rfl) ?_
      refine TL.nil ?_
      refine TX.back (i + 1) (⟨by omega, by rw [hi2, posA_no hx hp]⟩) (by omega) ⟨rfl, rfl, rfl, rfl, trivial⟩ (by repeat (first | exact Le.refl _ | exact Le.nil _ | refine Le.hit ?_ | refine Le.hit1 ?_ | refine Le.hit2 ?_ | refine Le.hit3 ?_ | refine Le.hit4 ?_ | refine Le.hit5 ?_ | refine Le.hit6 ?_ | refine Le.hit7 ?_ | refine Le.hit8 ?_ | refine Le.hit9 ?_ | refine Le.hit10 ?_ | refine Le.skip ?_))
  · refine TL.nil ?_
    refine TX.thenN rfl rfl ?_
    refine TC.seq ?_
    refine TC.cfalse rfl ?_
    refine TC.exit ?_
    refine TX.thenE ?_
    refine TX.thenE ?_
    refine TX.blkH ?_
    refine TX.thenN rfl rfl ?_
    refine TC.seq ?_
    refine TC.region ?_
    refine TL.p (EvP.assign rfl) ?_
    refine TL.nil ?_
    refine TX.thenN rfl rfl ?_
    refine TC.ret ?_
    refine TX.done rfl (Res.one rfl rfl) (fun w hs => Post0.mk hs ?_ (by repeat (first | exact Le.refl _ | exact Le.nil _ | refine Le.hit ?_ | refine Le.hit1 ?_ | refine Le.hit2 ?_ | refine Le.hit3 ?_ | refine Le.hit4 ?_ | refine Le.hit5 ?_ | refine Le.hit6 ?_ | refine Le.hit7 ?_ | refine Le.hit8 ?_ | refine Le.hit9 ?_ | refine Le.hit10 ?_ | refine Le.skip ?_)))
    rw [hi2, List.drop_eq_nil_of_le (by omega)]; rfl
end Go.Proofs.YtdbpandamnkpdaaDoor
