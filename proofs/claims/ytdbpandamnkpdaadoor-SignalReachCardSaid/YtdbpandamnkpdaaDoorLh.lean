/-
  Walks of the document's own graph: its calls.
-/
import Derived.Test.YtdbpandamnkpdaaDoorLg
set_option linter.unusedSimpArgs false
set_option linter.unusedVariables false
namespace Go.Proofs.YtdbpandamnkpdaaDoor
open Go Go.RowKit

/-- The document's graph: its one field holds a slice of one's own. -/
def RQ (rr : Nat) (L : List Bond) (C D : Chunk) : Prop := ∃ v, C = [(rr, .cells [v].toArray 80 (0, 0))] ∧ Sl 78 3 Bond.enc v L D
theorem filter_yes {α : Type} {p : α → Bool} {L : List α} {i : Nat} {x : α} (hx : L[i]? = some x) (hp : p x = true) : (L.take (i + 1)).filter p = (L.take i).filter p ++ [x] := by
  rw [take_snoc hx, List.filter_append]; simp [hp]
theorem filter_no {α : Type} {p : α → Bool} {L : List α} {i : Nat} {x : α} (hx : L[i]? = some x) (hp : p x = false) : (L.take (i + 1)).filter p = (L.take i).filter p := by
  rw [take_snoc hx, List.filter_append]; simp [hp]
theorem filter_one {α : Type} {p : α → Bool} {x : α} (hp : p x = true) : [x].filter p = [x] := by simp [hp]
theorem filter_non {α : Type} {p : α → Bool} {x : α} (hp : p x = false) : [x].filter p = [] := by simp [hp]

theorem rlink_bad {w0 w : World} {R : List Chunk} {rr : Nat} {a : Option Addr} {cap : Nat} {L : List Bond} {D : Chunk} {a1 b : Int} (hbad : okTwo a1 b = false) (hv : Sl 78 3 Bond.enc (.slice a L.length cap) L D) (hlen : L.length ≤ 1024) (hst : St w0 w ([(rr, .cells [(.slice a L.length cap)].toArray 80 (0, 0))] :: D :: R)) : Calls Tryd.prog 44 #[.pointer (some ⟨rr, 0, none⟩), .int .i64 a1, .int .i64 b] w (Post0 w0 ([(rr, .cells [(.slice a L.length cap)].toArray 80 (0, 0))] :: D :: R) fun u => u = .int .i64 1) := by
  refine calls_of (args := [_, _, _]) Tryd.func44 rfl Tryd.ntmps44 hst ?_
  refine TC.seq ?_
  refine TC.region ?_
  refine TL.p (EvP.assign rfl) ?_
  refine TL.nil ?_
  refine TX.thenN rfl rfl ?_
  refine TC.seq ?_
  refine TC.block ?_
  refine TC.seq ?_
  refine TC.region ?_
  refine TL.p (EvP.move rfl) ?_
  refine TL.callA rfl rfl Tryd.call31 (fun w hs => rPid_spec _ hs) ?_
  rintro _ rfl
  refine TL.p (EvP.not rfl) ?_
  refine TL.p (EvP.move rfl) ?_
  refine TL.bsplit 11 rfl (fun h11 => ?_) (fun h11 => ?_)
  · refine TL.gN rfl rfl rfl ?_
    refine TL.gN rfl rfl rfl ?_
    refine TL.gN rfl rfl rfl ?_
    refine TL.p (EvP.pickT rfl rfl) ?_
    refine TL.p (EvP.move rfl) ?_
    refine TL.gN rfl rfl rfl ?_
    refine TL.gN rfl rfl rfl ?_
    refine TL.gN rfl rfl rfl ?_
    refine TL.p (EvP.pickT rfl rfl) ?_
    refine TL.p (EvP.assign rfl) ?_
    refine TL.nil ?_
    refine TX.thenN rfl rfl ?_
    refine TC.ctrue rfl ?_
    refine TC.seq ?_
    refine TC.region ?_
    refine TL.p (EvP.assign rfl) ?_
    refine TL.nil ?_
    refine TX.thenN rfl rfl ?_
    refine TC.ret ?_
    refine TX.blkR ?_
    refine TX.thenR ?_
    refine TX.done rfl (Res.one rfl rfl) (fun w hs => Post0.mk hs ?_ (by repeat (first | exact Le.refl _ | exact Le.nil _ | refine Le.hit ?_ | refine Le.hit1 ?_ | refine Le.hit2 ?_ | refine Le.hit3 ?_ | refine Le.hit4 ?_ | refine Le.hit5 ?_ | refine Le.hit6 ?_ | refine Le.hit7 ?_ | refine Le.hit8 ?_ | refine Le.hit9 ?_ | refine Le.hit10 ?_ | refine Le.skip ?_)))
    rfl
  · refine TL.gY rfl rfl rfl ?_
    refine TL.p (EvP.move rfl) ?_
    refine TL.gY rfl rfl rfl ?_
    refine TL.callA rfl rfl Tryd.call31 (fun w hs => rPid_spec _ hs) ?_
    rintro _ rfl
    refine TL.gY rfl rfl rfl ?_
    refine TL.p (EvP.not rfl) ?_
    refine TL.p (EvP.pickF rfl rfl) ?_
    refine TL.p (EvP.move rfl) ?_
    refine TL.bsplit 16 rfl (fun h16 => ?_) (fun h16 => ?_)
    · refine TL.gN rfl rfl rfl ?_
      refine TL.gN rfl rfl rfl ?_
      refine TL.gN rfl rfl rfl ?_
      refine TL.p (EvP.pickT rfl rfl) ?_
      refine TL.p (EvP.assign rfl) ?_
      refine TL.nil ?_
      refine TX.thenN rfl rfl ?_
      refine TC.ctrue rfl ?_
      refine TC.seq ?_
      refine TC.region ?_
      refine TL.p (EvP.assign rfl) ?_
      refine TL.nil ?_
      refine TX.thenN rfl rfl ?_
      refine TC.ret ?_
      refine TX.blkR ?_
      refine TX.thenR ?_
      refine TX.done rfl (Res.one rfl rfl) (fun w hs => Post0.mk hs ?_ (by repeat (first | exact Le.refl _ | exact Le.nil _ | refine Le.hit ?_ | refine Le.hit1 ?_ | refine Le.hit2 ?_ | refine Le.hit3 ?_ | refine Le.hit4 ?_ | refine Le.hit5 ?_ | refine Le.hit6 ?_ | refine Le.hit7 ?_ | refine Le.hit8 ?_ | refine Le.hit9 ?_ | refine Le.hit10 ?_ | refine Le.skip ?_)))
      rfl
    · refine TL.gY rfl rfl rfl ?_
      refine TL.p (EvP.move rfl) ?_
      refine TL.gY rfl rfl rfl ?_
      refine TL.p (EvP.move rfl) ?_
      refine TL.gY rfl rfl rfl ?_
      refine TL.dec (EvP.eq rfl rfl) (fun h19 => ?_) (fun h19 => ?_)
      · refine TL.p (EvP.pickF rfl rfl) ?_
        refine TL.p (EvP.assign rfl) ?_
        refine TL.nil ?_
        refine TX.thenN rfl rfl ?_
        refine TC.ctrue rfl ?_
        refine TC.seq ?_
        refine TC.region ?_
        refine TL.p (EvP.assign rfl) ?_
        refine TL.nil ?_
        refine TX.thenN rfl rfl ?_
        refine TC.ret ?_
        refine TX.blkR ?_
        refine TX.thenR ?_
        refine TX.done rfl (Res.one rfl rfl) (fun w hs => Post0.mk hs ?_ (by repeat (first | exact Le.refl _ | exact Le.nil _ | refine Le.hit ?_ | refine Le.hit1 ?_ | refine Le.hit2 ?_ | refine Le.hit3 ?_ | refine Le.hit4 ?_ | refine Le.hit5 ?_ | refine Le.hit6 ?_ | refine Le.hit7 ?_ | refine Le.hit8 ?_ | refine Le.hit9 ?_ | refine Le.hit10 ?_ | refine Le.skip ?_)))
        rfl
      · refine TL.p (EvP.pickF rfl rfl) ?_
        refine TL.p (EvP.assign rfl) ?_
        refine TL.nil ?_
        refine TX.thenN rfl rfl ?_
        refine TC.cfalse rfl ?_
        refine TC.seq ?_
        refine TC.region ?_
        exfalso
        simp_all [okTwo]

theorem rlink_dup {w0 w : World} {R : List Chunk} {rr : Nat} {a : Option Addr} {cap : Nat} {L : List Bond} {D : Chunk} {a1 b : Int} (ha : okPid a1 = true) (hb : okPid b = true) (hne : ¬a1 = b) (hpos : 0 ≤ pos (fun x => decide (x = pairB a1 b)) L) (hv : Sl 78 3 Bond.enc (.slice a L.length cap) L D) (hlen : L.length ≤ 1024) (hst : St w0 w ([(rr, .cells [(.slice a L.length cap)].toArray 80 (0, 0))] :: D :: R)) : Calls Tryd.prog 44 #[.pointer (some ⟨rr, 0, none⟩), .int .i64 a1, .int .i64 b] w (Post0 w0 ([(rr, .cells [(.slice a L.length cap)].toArray 80 (0, 0))] :: D :: R) fun u => u = .int .i64 6) := by
  refine calls_of (args := [_, _, _]) Tryd.func44 rfl Tryd.ntmps44 hst ?_
  refine TC.seq ?_
  refine TC.region ?_
  refine TL.p (EvP.assign rfl) ?_
  refine TL.nil ?_
  refine TX.thenN rfl rfl ?_
  refine TC.seq ?_
  refine TC.block ?_
  refine TC.seq ?_
  refine TC.region ?_
  refine TL.p (EvP.move rfl) ?_
  refine TL.callA rfl rfl Tryd.call31 (fun w hs => rPid_yes ha hs) ?_
  rintro _ rfl
  refine TL.p (EvP.not rfl) ?_
  refine TL.p (EvP.move rfl) ?_
  refine TL.gY rfl rfl rfl ?_
  refine TL.p (EvP.move rfl) ?_
  refine TL.gY rfl rfl rfl ?_
  refine TL.callA rfl rfl Tryd.call31 (fun w hs => rPid_yes hb hs) ?_
  rintro _ rfl
  refine TL.gY rfl rfl rfl ?_
  refine TL.p (EvP.not rfl) ?_
  refine TL.p (EvP.pickF rfl rfl) ?_
  refine TL.p (EvP.move rfl) ?_
  refine TL.gY rfl rfl rfl ?_
  refine TL.p (EvP.move rfl) ?_
  refine TL.gY rfl rfl rfl ?_
  refine TL.p (EvP.move rfl) ?_
  refine TL.gY rfl rfl rfl ?_
  refine TL.p (EvP.isF (EvP.eq rfl rfl) (hne)) ?_
  refine TL.p (EvP.pickF rfl rfl) ?_
  refine TL.p (EvP.assign rfl) ?_
  refine TL.nil ?_
  refine TX.thenN rfl rfl ?_
  refine TC.cfalse rfl ?_
  refine TC.seq ?_
  refine TC.region ?_
  refine TL.p (EvP.move rfl) ?_
  refine TL.p (EvP.move rfl) ?_
  refine TL.p (EvP.move rfl) ?_
  refine TL.callA rfl rfl Tryd.call64 (fun w hs => rpair_spec a1 b hs) ?_
  rintro _ rfl
  refine TL.callA rfl rfl Tryd.call63 (fun w hs => rplace_spec (pairB a1 b) hv hlen hs) ?_
  rintro _ rfl
  refine TL.p (EvP.isT (EvP.ge rfl rfl) (hpos)) ?_
  refine TL.p (EvP.assign rfl) ?_
  refine TL.nil ?_
  refine TX.thenN rfl rfl ?_
  refine TC.ctrue rfl ?_
  refine TC.seq ?_
  refine TC.region ?_
  refine TL.p (EvP.assign rfl) ?_
  refine TL.nil ?_
  refine TX.thenN rfl rfl ?_
  refine TC.ret ?_
  refine TX.blkR ?_
  refine TX.thenR ?_
  refine TX.done rfl (Res.one rfl rfl) (fun w hs => Post0.mk hs ?_ (by repeat (first | exact Le.refl _ | exact Le.nil _ | refine Le.hit ?_ | refine Le.hit1 ?_ | refine Le.hit2 ?_ | refine Le.hit3 ?_ | refine Le.hit4 ?_ | refine Le.hit5 ?_ | refine Le.hit6 ?_ | refine Le.hit7 ?_ | refine Le.hit8 ?_ | refine Le.hit9 ?_ | refine Le.hit10 ?_ | refine Le.skip ?_)))
  rfl

theorem rlink_full {w0 w : World} {R : List Chunk} {rr : Nat} {a : Option Addr} {cap : Nat} {L : List Bond} {D : Chunk} {a1 b : Int} (ha : okPid a1 = true) (hb : okPid b = true) (hne : ¬a1 = b) (hpos : pos (fun x => decide (x = pairB a1 b)) L = -1) (hf : 1024 ≤ L.length) (hv : Sl 78 3 Bond.enc (.slice a L.length cap) L D) (hlen : L.length ≤ 1024) (hst : St w0 w ([(rr, .cells [(.slice a L.length cap)].toArray 80 (0, 0))] :: D :: R)) : Calls Tryd.prog 44 #[.pointer (some ⟨rr, 0, none⟩), .int .i64 a1, .int .i64 b] w (Post0 w0 ([(rr, .cells [(.slice a L.length cap)].toArray 80 (0, 0))] :: D :: R) fun u => u = .int .i64 8) := by
  refine calls_of (args := [_, _, _]) Tryd.func44 rfl Tryd.ntmps44 hst ?_
  refine TC.seq ?_
  refine TC.region ?_
  refine TL.p (EvP.assign rfl) ?_
  refine TL.nil ?_
  refine TX.thenN rfl rfl ?_
  refine TC.seq ?_
  refine TC.block ?_
  refine TC.seq ?_
  refine TC.region ?_
  refine TL.p (EvP.move rfl) ?_
  refine TL.callA rfl rfl Tryd.call31 (fun w hs => rPid_yes ha hs) ?_
  rintro _ rfl
  refine TL.p (EvP.not rfl) ?_
  refine TL.p (EvP.move rfl) ?_
  refine TL.gY rfl rfl rfl ?_
  refine TL.p (EvP.move rfl) ?_
  refine TL.gY rfl rfl rfl ?_
  refine TL.callA rfl rfl Tryd.call31 (fun w hs => rPid_yes hb hs) ?_
  rintro _ rfl
  refine TL.gY rfl rfl rfl ?_
  refine TL.p (EvP.not rfl) ?_
  refine TL.p (EvP.pickF rfl rfl) ?_
  refine TL.p (EvP.move rfl) ?_
  refine TL.gY rfl rfl rfl ?_
  refine TL.p (EvP.move rfl) ?_
  refine TL.gY rfl rfl rfl ?_
  refine TL.p (EvP.move rfl) ?_
  refine TL.gY rfl rfl rfl ?_
  refine TL.p (EvP.isF (EvP.eq rfl rfl) (hne)) ?_
  refine TL.p (EvP.pickF rfl rfl) ?_
  refine TL.p (EvP.assign rfl) ?_
  refine TL.nil ?_
  refine TX.thenN rfl rfl ?_
  refine TC.cfalse rfl ?_
  refine TC.seq ?_
  refine TC.region ?_
  refine TL.p (EvP.move rfl) ?_
  refine TL.p (EvP.move rfl) ?_
  refine TL.p (EvP.move rfl) ?_
  refine TL.callA rfl rfl Tryd.call64 (fun w hs => rpair_spec a1 b hs) ?_
  rintro _ rfl
  refine TL.callA rfl rfl Tryd.call63 (fun w hs => rplace_spec (pairB a1 b) hv hlen hs) ?_
  rintro _ rfl
  refine TL.p (EvP.isF (EvP.ge rfl rfl) (by omega)) ?_
  refine TL.p (EvP.assign rfl) ?_
  refine TL.nil ?_
  refine TX.thenN rfl rfl ?_
  refine TC.cfalse rfl ?_
  refine TC.seq ?_
  refine TC.region ?_
  refine TL.p (EvP.move rfl) ?_
  refine TL.p (EvP.nilP rfl) ?_
  refine TL.p (EvP.fa (e := 0) rfl Tryd.runUnderlying80 rfl Tryd.sizeOf71 rfl) ?_
  refine TL.r (EvR.load rfl Tryd.isAgg71 (AtB.own (by repeat (first | exact Has.hd | refine Has.tlb ?_ | refine Has.tlc ?_))) (by rfl)) ?_
  refine TL.p (EvP.lenS Tryd.runUnderlying71 rfl) ?_
  refine TL.p (EvP.isT (EvP.ge rfl rfl) (by omega)) ?_
  refine TL.p (EvP.assign rfl) ?_
  refine TL.nil ?_
  refine TX.thenN rfl rfl ?_
  refine TC.ctrue rfl ?_
  refine TC.seq ?_
  refine TC.region ?_
  refine TL.p (EvP.assign rfl) ?_
  refine TL.nil ?_
  refine TX.thenN rfl rfl ?_
  refine TC.ret ?_
  refine TX.blkR ?_
  refine TX.thenR ?_
  refine TX.done rfl (Res.one rfl rfl) (fun w hs => Post0.mk hs ?_ (by repeat (first | exact Le.refl _ | exact Le.nil _ | refine Le.hit ?_ | refine Le.hit1 ?_ | refine Le.hit2 ?_ | refine Le.hit3 ?_ | refine Le.hit4 ?_ | refine Le.hit5 ?_ | refine Le.hit6 ?_ | refine Le.hit7 ?_ | refine Le.hit8 ?_ | refine Le.hit9 ?_ | refine Le.hit10 ?_ | refine Le.skip ?_)))
  rfl

theorem rlink_new {w0 w : World} {R : List Chunk} {rr : Nat} {a : Option Addr} {cap : Nat} {L : List Bond} {D : Chunk} {a1 b : Int} (ha : okPid a1 = true) (hb : okPid b = true) (hne : ¬a1 = b) (hpos : pos (fun x => decide (x = pairB a1 b)) L = -1) (hf : ¬1024 ≤ L.length) (hv : Sl 78 3 Bond.enc (.slice a L.length cap) L D) (hlen : L.length ≤ 1024) (hst : St w0 w ([(rr, .cells [(.slice a L.length cap)].toArray 80 (0, 0))] :: D :: R)) : Calls Tryd.prog 44 #[.pointer (some ⟨rr, 0, none⟩), .int .i64 a1, .int .i64 b] w (Post2 w0 R fun u C D2 => u = .int .i64 0 ∧ RQ rr (L ++ [pairB a1 b]) C D2) := by
  refine calls_of (args := [_, _, _]) Tryd.func44 rfl Tryd.ntmps44 hst ?_
  refine TC.seq ?_
  refine TC.region ?_
  refine TL.p (EvP.assign rfl) ?_
  refine TL.nil ?_
  refine TX.thenN rfl rfl ?_
  refine TC.seq ?_
  refine TC.block ?_
  refine TC.seq ?_
  refine TC.region ?_
  refine TL.p (EvP.move rfl) ?_
  refine TL.callA rfl rfl Tryd.call31 (fun w hs => rPid_yes ha hs) ?_
  rintro _ rfl
  refine TL.p (EvP.not rfl) ?_
  refine TL.p (EvP.move rfl) ?_
  refine TL.gY rfl rfl rfl ?_
  refine TL.p (EvP.move rfl) ?_
  refine TL.gY rfl rfl rfl ?_
  refine TL.callA rfl rfl Tryd.call31 (fun w hs => rPid_yes hb hs) ?_
  rintro _ rfl
  refine TL.gY rfl rfl rfl ?_
  refine TL.p (EvP.not rfl) ?_
  refine TL.p (EvP.pickF rfl rfl) ?_
  refine TL.p (EvP.move rfl) ?_
  refine TL.gY rfl rfl rfl ?_
  refine TL.p (EvP.move rfl) ?_
  refine TL.gY rfl rfl rfl ?_
  refine TL.p (EvP.move rfl) ?_
  refine TL.gY rfl rfl rfl ?_
  refine TL.p (EvP.isF (EvP.eq rfl rfl) (hne)) ?_
  refine TL.p (EvP.pickF rfl rfl) ?_
  refine TL.p (EvP.assign rfl) ?_
  refine TL.nil ?_
  refine TX.thenN rfl rfl ?_
  refine TC.cfalse rfl ?_
  refine TC.seq ?_
  refine TC.region ?_
  refine TL.p (EvP.move rfl) ?_
  refine TL.p (EvP.move rfl) ?_
  refine TL.p (EvP.move rfl) ?_
  refine TL.callA rfl rfl Tryd.call64 (fun w hs => rpair_spec a1 b hs) ?_
  rintro _ rfl
  refine TL.callA rfl rfl Tryd.call63 (fun w hs => rplace_spec (pairB a1 b) hv hlen hs) ?_
  rintro _ rfl
  refine TL.p (EvP.isF (EvP.ge rfl rfl) (by omega)) ?_
  refine TL.p (EvP.assign rfl) ?_
  refine TL.nil ?_
  refine TX.thenN rfl rfl ?_
  refine TC.cfalse rfl ?_
  refine TC.seq ?_
  refine TC.region ?_
  refine TL.p (EvP.move rfl) ?_
  refine TL.p (EvP.nilP rfl) ?_
  refine TL.p (EvP.fa (e := 0) rfl Tryd.runUnderlying80 rfl Tryd.sizeOf71 rfl) ?_
  refine TL.r (EvR.load rfl Tryd.isAgg71 (AtB.own (by repeat (first | exact Has.hd | refine Has.tlb ?_ | refine Has.tlc ?_))) (by rfl)) ?_
  refine TL.p (EvP.lenS Tryd.runUnderlying71 rfl) ?_
  refine TL.p (EvP.isF (EvP.ge rfl rfl) (by omega)) ?_
  refine TL.p (EvP.assign rfl) ?_
  refine TL.nil ?_
  refine TX.thenN rfl rfl ?_
  refine TC.cfalse rfl ?_
  refine TC.skip ?_
  refine TX.blkN ?_
  refine TX.thenN rfl rfl ?_
  refine TC.seq ?_
  refine TC.drawn (listed := #[false, false, false, false, false, false, false, false, false, false, false, false, false]) 13 (fun _ => True) rfl rfl rfl rfl (fun _ _ => trivial) ?_
  refine TR.take 0 rfl (by kernel_rfl) (by kernel_rfl) (by kernel_rfl) (EvP.r (by exact EvP.move rfl)) (l' := #[true, false, false, false, false, false, false, false, false, false, false, false, false]) rfl ?_
  refine TR.take 1 rfl (by kernel_rfl) (by kernel_rfl) (by kernel_rfl) (EvP.r (by exact EvP.move rfl)) (l' := #[true, true, false, false, false, false, false, false, false, false, false, false, false]) rfl ?_
  refine TR.take 2 rfl (by kernel_rfl) (by kernel_rfl) (by kernel_rfl) (EvP.r (by exact EvP.nilP rfl)) (l' := #[true, true, true, false, false, false, false, false, false, false, false, false, false]) rfl ?_
  refine TR.take 3 rfl (by kernel_rfl) (by kernel_rfl) (by kernel_rfl) (EvP.r (by exact EvP.fa (e := 0) rfl Tryd.runUnderlying80 rfl Tryd.sizeOf71 rfl)) (l' := #[true, true, true, true, false, false, false, false, false, false, false, false, false]) rfl ?_
  refine TR.take 5 rfl (by kernel_rfl) (by kernel_rfl) (by kernel_rfl) (EvP.r (by exact EvP.move rfl)) (l' := #[true, true, true, true, false, true, false, false, false, false, false, false, false]) rfl ?_
  refine TR.take 6 rfl (by kernel_rfl) (by kernel_rfl) (by kernel_rfl) (EvP.r (by exact EvP.move rfl)) (l' := #[true, true, true, true, false, true, true, false, false, false, false, false, false]) rfl ?_
  refine TR.two (i := 4) (j := 7) (by kernel_rfl) ?_ ?_
  · refine TRi.r rfl (EvR.load rfl Tryd.isAgg71 (AtB.own (by repeat (first | exact Has.hd | refine Has.tlb ?_ | refine Has.tlc ?_))) (by rfl)) (fun _ _ => trivial) (l' := #[true, true, true, true, true, true, true, false, false, false, false, false, false]) rfl ?_
    refine TR.one (i := 7) (by kernel_rfl) ?_
    refine TRi.call rfl rfl rfl Tryd.call64 (fun w hs => rpair_spec a1 b hs) (l' := #[true, true, true, true, true, true, true, true, false, false, false, false, false]) rfl ?_
    rintro _ _ ⟨rfl, rfl⟩
    refine ⟨fun _ _ => trivial, ?_⟩
    refine TR.one (i := 8) (by kernel_rfl) ?_
    refine TRi.w rfl (EvW.lit1 (pairB a1 b) rfl elB Tryd.underlying71 (by decide) (by decide) encB_ok rfl) (l' := #[true, true, true, true, true, true, true, true, true, false, false, false, false]) rfl ?_
    rintro _ _ ⟨D1, hD1, rfl⟩
    refine ⟨fun _ _ => trivial, ?_⟩
    refine TR.one (i := 9) (by kernel_rfl) ?_
    refine TRi.le (Le.hit2 (Le.refl _)) ?_
    refine TRi.w rfl (EvW.append rfl rfl elB Tryd.underlying71 encB_ok hv (SrcR.sl Tryd.underlying71 encB_ok hD1 (by simp)) (by simp only [List.length_singleton]; omega) (by decide)) (l' := #[true, true, true, true, true, true, true, true, true, true, false, false, false]) rfl ?_
    rintro v2 _ ⟨C3, hC3, rfl⟩
    refine ⟨fun _ _ => trivial, ?_⟩
    refine TR.take 10 rfl (by kernel_rfl) (by kernel_rfl) (by kernel_rfl) (EvP.r (by exact EvP.nilP rfl)) (l' := #[true, true, true, true, true, true, true, true, true, true, true, false, false]) rfl ?_
    refine TR.take 11 rfl (by kernel_rfl) (by kernel_rfl) (by kernel_rfl) (EvP.r (by exact EvP.fa (e := 0) rfl Tryd.runUnderlying80 rfl Tryd.sizeOf71 rfl)) (l' := #[true, true, true, true, true, true, true, true, true, true, true, true, false]) rfl ?_
    refine TR.one (i := 12) (by kernel_rfl) ?_
    refine TRi.u rfl (EvU.store1 rfl rfl Tryd.sizeOf71 (by first | rfl | (apply Sl.one; assumption)) (by repeat (first | exact Has.hd | refine Has.tlb ?_ | refine Has.tlc ?_)) (by repeat (first | exact SetL.here | apply SetL.there)) (by repeat (first | exact Upd.hd | apply Upd.tlb | apply Upd.tlc))) (fun _ _ => trivial) (l' := #[true, true, true, true, true, true, true, true, true, true, true, true, true]) rfl ?_
    refine TR.done (by kernel_rfl) ?_
    refine TX.thenN rfl rfl ?_
    refine TC.seq ?_
    refine TC.region ?_
    refine TL.p (EvP.assign rfl) ?_
    refine TL.nil ?_
    refine TX.thenN rfl rfl ?_
    refine TC.ret ?_
    refine TX.done rfl (Res.one rfl rfl) (fun w hs => Post2.mk (C := [(rr, .cells [v2].toArray 80 (0, 0))]) (D := C3) hs ⟨rfl, v2, rfl, hC3⟩ (by repeat (first | exact Le.refl _ | exact Le.nil _ | refine Le.hit ?_ | refine Le.hit1 ?_ | refine Le.hit2 ?_ | refine Le.hit3 ?_ | refine Le.hit4 ?_ | refine Le.hit5 ?_ | refine Le.hit6 ?_ | refine Le.hit7 ?_ | refine Le.hit8 ?_ | refine Le.hit9 ?_ | refine Le.hit10 ?_ | refine Le.skip ?_)))
  · refine TRi.call rfl rfl rfl Tryd.call64 (fun w hs => rpair_spec a1 b hs) (l' := #[true, true, true, true, false, true, true, true, false, false, false, false, false]) rfl ?_
    rintro _ _ ⟨rfl, rfl⟩
    refine ⟨fun _ _ => trivial, ?_⟩
    refine TR.two (i := 4) (j := 8) (by kernel_rfl) ?_ ?_
    · refine TRi.r rfl (EvR.load rfl Tryd.isAgg71 (AtB.own (by repeat (first | exact Has.hd | refine Has.tlb ?_ | refine Has.tlc ?_))) (by rfl)) (fun _ _ => trivial) (l' := #[true, true, true, true, true, true, true, true, false, false, false, false, false]) rfl ?_
      refine TR.one (i := 8) (by kernel_rfl) ?_
      refine TRi.w rfl (EvW.lit1 (pairB a1 b) rfl elB Tryd.underlying71 (by decide) (by decide) encB_ok rfl) (l' := #[true, true, true, true, true, true, true, true, true, false, false, false, false]) rfl ?_
      rintro _ _ ⟨D4, hD4, rfl⟩
      refine ⟨fun _ _ => trivial, ?_⟩
      refine TR.one (i := 9) (by kernel_rfl) ?_
      refine TRi.le (Le.hit2 (Le.refl _)) ?_
      refine TRi.w rfl (EvW.append rfl rfl elB Tryd.underlying71 encB_ok hv (SrcR.sl Tryd.underlying71 encB_ok hD4 (by simp)) (by simp only [List.length_singleton]; omega) (by decide)) (l' := #[true, true, true, true, true, true, true, true, true, true, false, false, false]) rfl ?_
      rintro v5 _ ⟨C6, hC6, rfl⟩
      refine ⟨fun _ _ => trivial, ?_⟩
      refine TR.take 10 rfl (by kernel_rfl) (by kernel_rfl) (by kernel_rfl) (EvP.r (by exact EvP.nilP rfl)) (l' := #[true, true, true, true, true, true, true, true, true, true, true, false, false]) rfl ?_
      refine TR.take 11 rfl (by kernel_rfl) (by kernel_rfl) (by kernel_rfl) (EvP.r (by exact EvP.fa (e := 0) rfl Tryd.runUnderlying80 rfl Tryd.sizeOf71 rfl)) (l' := #[true, true, true, true, true, true, true, true, true, true, true, true, false]) rfl ?_
      refine TR.one (i := 12) (by kernel_rfl) ?_
      refine TRi.u rfl (EvU.store1 rfl rfl Tryd.sizeOf71 (by first | rfl | (apply Sl.one; assumption)) (by repeat (first | exact Has.hd | refine Has.tlb ?_ | refine Has.tlc ?_)) (by repeat (first | exact SetL.here | apply SetL.there)) (by repeat (first | exact Upd.hd | apply Upd.tlb | apply Upd.tlc))) (fun _ _ => trivial) (l' := #[true, true, true, true, true, true, true, true, true, true, true, true, true]) rfl ?_
      refine TR.done (by kernel_rfl) ?_
      refine TX.thenN rfl rfl ?_
      refine TC.seq ?_
      refine TC.region ?_
      refine TL.p (EvP.assign rfl) ?_
      refine TL.nil ?_
      refine TX.thenN rfl rfl ?_
      refine TC.ret ?_
      refine TX.done rfl (Res.one rfl rfl) (fun w hs => Post2.mk (C := [(rr, .cells [v5].toArray 80 (0, 0))]) (D := C6) hs ⟨rfl, v5, rfl, hC6⟩ (by repeat (first | exact Le.refl _ | exact Le.nil _ | refine Le.hit ?_ | refine Le.hit1 ?_ | refine Le.hit2 ?_ | refine Le.hit3 ?_ | refine Le.hit4 ?_ | refine Le.hit5 ?_ | refine Le.hit6 ?_ | refine Le.hit7 ?_ | refine Le.hit8 ?_ | refine Le.hit9 ?_ | refine Le.hit10 ?_ | refine Le.skip ?_)))
    · refine TRi.w rfl (EvW.lit1 (pairB a1 b) rfl elB Tryd.underlying71 (by decide) (by decide) encB_ok rfl) (l' := #[true, true, true, true, false, true, true, true, true, false, false, false, false]) rfl ?_
      rintro _ _ ⟨D7, hD7, rfl⟩
      refine ⟨fun _ _ => trivial, ?_⟩
      refine TR.one (i := 4) (by kernel_rfl) ?_
      refine TRi.r rfl (EvR.load rfl Tryd.isAgg71 (AtB.own (by repeat (first | exact Has.hd | refine Has.tlb ?_ | refine Has.tlc ?_))) (by rfl)) (fun _ _ => trivial) (l' := #[true, true, true, true, true, true, true, true, true, false, false, false, false]) rfl ?_
      refine TR.one (i := 9) (by kernel_rfl) ?_
      refine TRi.le (Le.hit2 (Le.refl _)) ?_
      refine TRi.w rfl (EvW.append rfl rfl elB Tryd.underlying71 encB_ok hv (SrcR.sl Tryd.underlying71 encB_ok hD7 (by simp)) (by simp only [List.length_singleton]; omega) (by decide)) (l' := #[true, true, true, true, true, true, true, true, true, true, false, false, false]) rfl ?_
      rintro v8 _ ⟨C9, hC9, rfl⟩
      refine ⟨fun _ _ => trivial, ?_⟩
      refine TR.take 10 rfl (by kernel_rfl) (by kernel_rfl) (by kernel_rfl) (EvP.r (by exact EvP.nilP rfl)) (l' := #[true, true, true, true, true, true, true, true, true, true, true, false, false]) rfl ?_
      refine TR.take 11 rfl (by kernel_rfl) (by kernel_rfl) (by kernel_rfl) (EvP.r (by exact EvP.fa (e := 0) rfl Tryd.runUnderlying80 rfl Tryd.sizeOf71 rfl)) (l' := #[true, true, true, true, true, true, true, true, true, true, true, true, false]) rfl ?_
      refine TR.one (i := 12) (by kernel_rfl) ?_
      refine TRi.u rfl (EvU.store1 rfl rfl Tryd.sizeOf71 (by first | rfl | (apply Sl.one; assumption)) (by repeat (first | exact Has.hd | refine Has.tlb ?_ | refine Has.tlc ?_)) (by repeat (first | exact SetL.here | apply SetL.there)) (by repeat (first | exact Upd.hd | apply Upd.tlb | apply Upd.tlc))) (fun _ _ => trivial) (l' := #[true, true, true, true, true, true, true, true, true, true, true, true, true]) rfl ?_
      refine TR.done (by kernel_rfl) ?_
      refine TX.thenN rfl rfl ?_
      refine TC.seq ?_
      refine TC.region ?_
      refine TL.p (EvP.assign rfl) ?_
      refine TL.nil ?_
      refine TX.thenN rfl rfl ?_
      refine TC.ret ?_
      refine TX.done rfl (Res.one rfl rfl) (fun w hs => Post2.mk (C := [(rr, .cells [v8].toArray 80 (0, 0))]) (D := C9) hs ⟨rfl, v8, rfl, hC9⟩ (by repeat (first | exact Le.refl _ | exact Le.nil _ | refine Le.hit ?_ | refine Le.hit1 ?_ | refine Le.hit2 ?_ | refine Le.hit3 ?_ | refine Le.hit4 ?_ | refine Le.hit5 ?_ | refine Le.hit6 ?_ | refine Le.hit7 ?_ | refine Le.hit8 ?_ | refine Le.hit9 ?_ | refine Le.hit10 ?_ | refine Le.skip ?_)))

theorem rwat_bad {w0 w : World} {R : List Chunk} {rr : Nat} {a : Option Addr} {cap : Nat} {L : List Bond} {D : Chunk} {r f t : Int} (hbad : (okRef r && okPid f && okPid t) = false) (hv : Sl 78 3 Bond.enc (.slice a L.length cap) L D) (hlen : L.length ≤ 1024) (hst : St w0 w ([(rr, .cells [(.slice a L.length cap)].toArray 80 (0, 0))] :: D :: R)) : Calls Tryd.prog 43 #[.pointer (some ⟨rr, 0, none⟩), .int .i64 r, .int .i64 f, .int .i64 t] w (Post0 w0 ([(rr, .cells [(.slice a L.length cap)].toArray 80 (0, 0))] :: D :: R) fun u => u = .int .i64 1) := by
  refine calls_of (args := [_, _, _, _]) Tryd.func43 rfl Tryd.ntmps43 hst ?_
  refine TC.seq ?_
  refine TC.region ?_
  refine TL.p (EvP.assign rfl) ?_
  refine TL.nil ?_
  refine TX.thenN rfl rfl ?_
  refine TC.seq ?_
  refine TC.block ?_
  refine TC.seq ?_
  refine TC.region ?_
  refine TL.p (EvP.move rfl) ?_
  refine TL.dec (EvP.lt rfl rfl) (fun h11 => ?_) (fun h11 => ?_)
  · refine TL.p (EvP.move rfl) ?_
    refine TL.gN rfl rfl rfl ?_
    refine TL.gN rfl rfl rfl ?_
    refine TL.p (EvP.pickT rfl rfl) ?_
    refine TL.p (EvP.move rfl) ?_
    refine TL.gN rfl rfl rfl ?_
    refine TL.gN rfl rfl rfl ?_
    refine TL.gN rfl rfl rfl ?_
    refine TL.p (EvP.pickT rfl rfl) ?_
    refine TL.p (EvP.move rfl) ?_
    refine TL.gN rfl rfl rfl ?_
    refine TL.gN rfl rfl rfl ?_
    refine TL.gN rfl rfl rfl ?_
    refine TL.p (EvP.pickT rfl rfl) ?_
    refine TL.p (EvP.assign rfl) ?_
    refine TL.nil ?_
    refine TX.thenN rfl rfl ?_
    refine TC.ctrue rfl ?_
    refine TC.seq ?_
    refine TC.region ?_
    refine TL.p (EvP.assign rfl) ?_
    refine TL.nil ?_
    refine TX.thenN rfl rfl ?_
    refine TC.ret ?_
    refine TX.blkR ?_
    refine TX.thenR ?_
    refine TX.done rfl (Res.one rfl rfl) (fun w hs => Post0.mk hs ?_ (by repeat (first | exact Le.refl _ | exact Le.nil _ | refine Le.hit ?_ | refine Le.hit1 ?_ | refine Le.hit2 ?_ | refine Le.hit3 ?_ | refine Le.hit4 ?_ | refine Le.hit5 ?_ | refine Le.hit6 ?_ | refine Le.hit7 ?_ | refine Le.hit8 ?_ | refine Le.hit9 ?_ | refine Le.hit10 ?_ | refine Le.skip ?_)))
    rfl
  · refine TL.p (EvP.move rfl) ?_
    refine TL.gY rfl rfl rfl ?_
    refine TL.p (EvP.move rfl) ?_
    refine TL.gY rfl rfl rfl ?_
    refine TL.dec (EvP.gt rfl rfl) (fun h14 => ?_) (fun h14 => ?_)
    · refine TL.p (EvP.pickF rfl rfl) ?_
      refine TL.p (EvP.move rfl) ?_
      refine TL.gN rfl rfl rfl ?_
      refine TL.gN rfl rfl rfl ?_
      refine TL.gN rfl rfl rfl ?_
      refine TL.p (EvP.pickT rfl rfl) ?_
      refine TL.p (EvP.move rfl) ?_
      refine TL.gN rfl rfl rfl ?_
      refine TL.gN rfl rfl rfl ?_
      refine TL.gN rfl rfl rfl ?_
      refine TL.p (EvP.pickT rfl rfl) ?_
      refine TL.p (EvP.assign rfl) ?_
      refine TL.nil ?_
      refine TX.thenN rfl rfl ?_
      refine TC.ctrue rfl ?_
      refine TC.seq ?_
      refine TC.region ?_
      refine TL.p (EvP.assign rfl) ?_
      refine TL.nil ?_
      refine TX.thenN rfl rfl ?_
      refine TC.ret ?_
      refine TX.blkR ?_
      refine TX.thenR ?_
      refine TX.done rfl (Res.one rfl rfl) (fun w hs => Post0.mk hs ?_ (by repeat (first | exact Le.refl _ | exact Le.nil _ | refine Le.hit ?_ | refine Le.hit1 ?_ | refine Le.hit2 ?_ | refine Le.hit3 ?_ | refine Le.hit4 ?_ | refine Le.hit5 ?_ | refine Le.hit6 ?_ | refine Le.hit7 ?_ | refine Le.hit8 ?_ | refine Le.hit9 ?_ | refine Le.hit10 ?_ | refine Le.skip ?_)))
      rfl
    · refine TL.p (EvP.pickF rfl rfl) ?_
      refine TL.p (EvP.move rfl) ?_
      refine TL.gY rfl rfl rfl ?_
      refine TL.p (EvP.move rfl) ?_
      refine TL.gY rfl rfl rfl ?_
      refine TL.callA rfl rfl Tryd.call31 (fun w hs => rPid_spec _ hs) ?_
      rintro _ rfl
      refine TL.gY rfl rfl rfl ?_
      refine TL.p (EvP.not rfl) ?_
      refine TL.p (EvP.pickF rfl rfl) ?_
      refine TL.p (EvP.move rfl) ?_
      refine TL.bsplit 21 rfl (fun h21 => ?_) (fun h21 => ?_)
      · refine TL.gN rfl rfl rfl ?_
        refine TL.gN rfl rfl rfl ?_
        refine TL.gN rfl rfl rfl ?_
        refine TL.p (EvP.pickT rfl rfl) ?_
        refine TL.p (EvP.assign rfl) ?_
        refine TL.nil ?_
        refine TX.thenN rfl rfl ?_
        refine TC.ctrue rfl ?_
        refine TC.seq ?_
        refine TC.region ?_
        refine TL.p (EvP.assign rfl) ?_
        refine TL.nil ?_
        refine TX.thenN rfl rfl ?_
        refine TC.ret ?_
        refine TX.blkR ?_
        refine TX.thenR ?_
        refine TX.done rfl (Res.one rfl rfl) (fun w hs => Post0.mk hs ?_ (by repeat (first | exact Le.refl _ | exact Le.nil _ | refine Le.hit ?_ | refine Le.hit1 ?_ | refine Le.hit2 ?_ | refine Le.hit3 ?_ | refine Le.hit4 ?_ | refine Le.hit5 ?_ | refine Le.hit6 ?_ | refine Le.hit7 ?_ | refine Le.hit8 ?_ | refine Le.hit9 ?_ | refine Le.hit10 ?_ | refine Le.skip ?_)))
        rfl
      · refine TL.gY rfl rfl rfl ?_
        refine TL.p (EvP.move rfl) ?_
        refine TL.gY rfl rfl rfl ?_
        refine TL.callA rfl rfl Tryd.call31 (fun w hs => rPid_spec _ hs) ?_
        rintro _ rfl
        refine TL.gY rfl rfl rfl ?_
        refine TL.p (EvP.not rfl) ?_
        refine TL.p (EvP.pickF rfl rfl) ?_
        refine TL.p (EvP.assign rfl) ?_
        refine TL.nil ?_
        refine TX.thenN rfl rfl ?_
        refine TC.cond rfl (fun h9 => ?_) (fun h9 => ?_)
        · refine TC.seq ?_
          refine TC.region ?_
          refine TL.p (EvP.assign rfl) ?_
          refine TL.nil ?_
          refine TX.thenN rfl rfl ?_
          refine TC.ret ?_
          refine TX.blkR ?_
          refine TX.thenR ?_
          refine TX.done rfl (Res.one rfl rfl) (fun w hs => Post0.mk hs ?_ (by repeat (first | exact Le.refl _ | exact Le.nil _ | refine Le.hit ?_ | refine Le.hit1 ?_ | refine Le.hit2 ?_ | refine Le.hit3 ?_ | refine Le.hit4 ?_ | refine Le.hit5 ?_ | refine Le.hit6 ?_ | refine Le.hit7 ?_ | refine Le.hit8 ?_ | refine Le.hit9 ?_ | refine Le.hit10 ?_ | refine Le.skip ?_)))
          rfl
        · refine TC.seq ?_
          refine TC.region ?_
          exfalso
          have hr : okRef r = true := by simp only [okRef, decide_eq_true_eq]; omega
          simp_all

theorem rwat_dup {w0 w : World} {R : List Chunk} {rr : Nat} {a : Option Addr} {cap : Nat} {L : List Bond} {D : Chunk} {r f t : Int} (hr : 1 ≤ r ∧ r ≤ 281474976710656) (hf : okPid f = true) (ht : okPid t = true) (hpos : 0 ≤ pos (isRef r) L) (hv : Sl 78 3 Bond.enc (.slice a L.length cap) L D) (hlen : L.length ≤ 1024) (hst : St w0 w ([(rr, .cells [(.slice a L.length cap)].toArray 80 (0, 0))] :: D :: R)) : Calls Tryd.prog 43 #[.pointer (some ⟨rr, 0, none⟩), .int .i64 r, .int .i64 f, .int .i64 t] w (Post0 w0 ([(rr, .cells [(.slice a L.length cap)].toArray 80 (0, 0))] :: D :: R) fun u => u = .int .i64 6) := by
  refine calls_of (args := [_, _, _, _]) Tryd.func43 rfl Tryd.ntmps43 hst ?_
  refine TC.seq ?_
  refine TC.region ?_
  refine TL.p (EvP.assign rfl) ?_
  refine TL.nil ?_
  refine TX.thenN rfl rfl ?_
  refine TC.seq ?_
  refine TC.block ?_
  refine TC.seq ?_
  refine TC.region ?_
  refine TL.p (EvP.move rfl) ?_
  refine TL.p (EvP.isF (EvP.lt rfl rfl) (by omega)) ?_
  refine TL.p (EvP.move rfl) ?_
  refine TL.gY rfl rfl rfl ?_
  refine TL.p (EvP.move rfl) ?_
  refine TL.gY rfl rfl rfl ?_
  refine TL.p (EvP.isF (EvP.gt rfl rfl) (by omega)) ?_
  refine TL.p (EvP.pickF rfl rfl) ?_
  refine TL.p (EvP.move rfl) ?_
  refine TL.gY rfl rfl rfl ?_
  refine TL.p (EvP.move rfl) ?_
  refine TL.gY rfl rfl rfl ?_
  refine TL.callA rfl rfl Tryd.call31 (fun w hs => rPid_yes hf hs) ?_
  rintro _ rfl
  refine TL.gY rfl rfl rfl ?_
  refine TL.p (EvP.not rfl) ?_
  refine TL.p (EvP.pickF rfl rfl) ?_
  refine TL.p (EvP.move rfl) ?_
  refine TL.gY rfl rfl rfl ?_
  refine TL.p (EvP.move rfl) ?_
  refine TL.gY rfl rfl rfl ?_
  refine TL.callA rfl rfl Tryd.call31 (fun w hs => rPid_yes ht hs) ?_
  rintro _ rfl
  refine TL.gY rfl rfl rfl ?_
  refine TL.p (EvP.not rfl) ?_
  refine TL.p (EvP.pickF rfl rfl) ?_
  refine TL.p (EvP.assign rfl) ?_
  refine TL.nil ?_
  refine TX.thenN rfl rfl ?_
  refine TC.cfalse rfl ?_
  refine TC.seq ?_
  refine TC.region ?_
  refine TL.p (EvP.move rfl) ?_
  refine TL.p (EvP.move rfl) ?_
  refine TL.callA rfl rfl Tryd.call62 (fun w hs => rwatch_spec r hv hlen hs) ?_
  rintro _ rfl
  refine TL.p (EvP.isT (EvP.ge rfl rfl) (hpos)) ?_
  refine TL.p (EvP.assign rfl) ?_
  refine TL.nil ?_
  refine TX.thenN rfl rfl ?_
  refine TC.ctrue rfl ?_
  refine TC.seq ?_
  refine TC.region ?_
  refine TL.p (EvP.assign rfl) ?_
  refine TL.nil ?_
  refine TX.thenN rfl rfl ?_
  refine TC.ret ?_
  refine TX.blkR ?_
  refine TX.thenR ?_
  refine TX.done rfl (Res.one rfl rfl) (fun w hs => Post0.mk hs ?_ (by repeat (first | exact Le.refl _ | exact Le.nil _ | refine Le.hit ?_ | refine Le.hit1 ?_ | refine Le.hit2 ?_ | refine Le.hit3 ?_ | refine Le.hit4 ?_ | refine Le.hit5 ?_ | refine Le.hit6 ?_ | refine Le.hit7 ?_ | refine Le.hit8 ?_ | refine Le.hit9 ?_ | refine Le.hit10 ?_ | refine Le.skip ?_)))
  rfl

theorem rwat_full {w0 w : World} {R : List Chunk} {rr : Nat} {a : Option Addr} {cap : Nat} {L : List Bond} {D : Chunk} {r f t : Int} (hr : 1 ≤ r ∧ r ≤ 281474976710656) (hf : okPid f = true) (ht : okPid t = true) (hpos : pos (isRef r) L = -1) (hl : 1024 ≤ L.length) (hv : Sl 78 3 Bond.enc (.slice a L.length cap) L D) (hlen : L.length ≤ 1024) (hst : St w0 w ([(rr, .cells [(.slice a L.length cap)].toArray 80 (0, 0))] :: D :: R)) : Calls Tryd.prog 43 #[.pointer (some ⟨rr, 0, none⟩), .int .i64 r, .int .i64 f, .int .i64 t] w (Post0 w0 ([(rr, .cells [(.slice a L.length cap)].toArray 80 (0, 0))] :: D :: R) fun u => u = .int .i64 8) := by
  refine calls_of (args := [_, _, _, _]) Tryd.func43 rfl Tryd.ntmps43 hst ?_
  refine TC.seq ?_
  refine TC.region ?_
  refine TL.p (EvP.assign rfl) ?_
  refine TL.nil ?_
  refine TX.thenN rfl rfl ?_
  refine TC.seq ?_
  refine TC.block ?_
  refine TC.seq ?_
  refine TC.region ?_
  refine TL.p (EvP.move rfl) ?_
  refine TL.p (EvP.isF (EvP.lt rfl rfl) (by omega)) ?_
  refine TL.p (EvP.move rfl) ?_
  refine TL.gY rfl rfl rfl ?_
  refine TL.p (EvP.move rfl) ?_
  refine TL.gY rfl rfl rfl ?_
  refine TL.p (EvP.isF (EvP.gt rfl rfl) (by omega)) ?_
  refine TL.p (EvP.pickF rfl rfl) ?_
  refine TL.p (EvP.move rfl) ?_
  refine TL.gY rfl rfl rfl ?_
  refine TL.p (EvP.move rfl) ?_
  refine TL.gY rfl rfl rfl ?_
  refine TL.callA rfl rfl Tryd.call31 (fun w hs => rPid_yes hf hs) ?_
  rintro _ rfl
  refine TL.gY rfl rfl rfl ?_
  refine TL.p (EvP.not rfl) ?_
  refine TL.p (EvP.pickF rfl rfl) ?_
  refine TL.p (EvP.move rfl) ?_
  refine TL.gY rfl rfl rfl ?_
  refine TL.p (EvP.move rfl) ?_
  refine TL.gY rfl rfl rfl ?_
  refine TL.callA rfl rfl Tryd.call31 (fun w hs => rPid_yes ht hs) ?_
  rintro _ rfl
  refine TL.gY rfl rfl rfl ?_
  refine TL.p (EvP.not rfl) ?_
  refine TL.p (EvP.pickF rfl rfl) ?_
  refine TL.p (EvP.assign rfl) ?_
  refine TL.nil ?_
  refine TX.thenN rfl rfl ?_
  refine TC.cfalse rfl ?_
  refine TC.seq ?_
  refine TC.region ?_
  refine TL.p (EvP.move rfl) ?_
  refine TL.p (EvP.move rfl) ?_
  refine TL.callA rfl rfl Tryd.call62 (fun w hs => rwatch_spec r hv hlen hs) ?_
  rintro _ rfl
  refine TL.p (EvP.isF (EvP.ge rfl rfl) (by omega)) ?_
  refine TL.p (EvP.assign rfl) ?_
  refine TL.nil ?_
  refine TX.thenN rfl rfl ?_
  refine TC.cfalse rfl ?_
  refine TC.seq ?_
  refine TC.region ?_
  refine TL.p (EvP.move rfl) ?_
  refine TL.p (EvP.nilP rfl) ?_
  refine TL.p (EvP.fa (e := 0) rfl Tryd.runUnderlying80 rfl Tryd.sizeOf71 rfl) ?_
  refine TL.r (EvR.load rfl Tryd.isAgg71 (AtB.own (by repeat (first | exact Has.hd | refine Has.tlb ?_ | refine Has.tlc ?_))) (by rfl)) ?_
  refine TL.p (EvP.lenS Tryd.runUnderlying71 rfl) ?_
  refine TL.p (EvP.isT (EvP.ge rfl rfl) (by omega)) ?_
  refine TL.p (EvP.assign rfl) ?_
  refine TL.nil ?_
  refine TX.thenN rfl rfl ?_
  refine TC.ctrue rfl ?_
  refine TC.seq ?_
  refine TC.region ?_
  refine TL.p (EvP.assign rfl) ?_
  refine TL.nil ?_
  refine TX.thenN rfl rfl ?_
  refine TC.ret ?_
  refine TX.blkR ?_
  refine TX.thenR ?_
  refine TX.done rfl (Res.one rfl rfl) (fun w hs => Post0.mk hs ?_ (by repeat (first | exact Le.refl _ | exact Le.nil _ | refine Le.hit ?_ | refine Le.hit1 ?_ | refine Le.hit2 ?_ | refine Le.hit3 ?_ | refine Le.hit4 ?_ | refine Le.hit5 ?_ | refine Le.hit6 ?_ | refine Le.hit7 ?_ | refine Le.hit8 ?_ | refine Le.hit9 ?_ | refine Le.hit10 ?_ | refine Le.skip ?_)))
  rfl

theorem rwat_new {w0 w : World} {R : List Chunk} {rr : Nat} {a : Option Addr} {cap : Nat} {L : List Bond} {D : Chunk} {r f t : Int} (hr : 1 ≤ r ∧ r ≤ 281474976710656) (hf : okPid f = true) (ht : okPid t = true) (hpos : pos (isRef r) L = -1) (hl : ¬1024 ≤ L.length) (hv : Sl 78 3 Bond.enc (.slice a L.length cap) L D) (hlen : L.length ≤ 1024) (hst : St w0 w ([(rr, .cells [(.slice a L.length cap)].toArray 80 (0, 0))] :: D :: R)) : Calls Tryd.prog 43 #[.pointer (some ⟨rr, 0, none⟩), .int .i64 r, .int .i64 f, .int .i64 t] w (Post2 w0 R fun u C D2 => u = .int .i64 0 ∧ RQ rr (L ++ [⟨f, t, r⟩]) C D2) := by
  refine calls_of (args := [_, _, _, _]) Tryd.func43 rfl Tryd.ntmps43 hst ?_
  refine TC.seq ?_
  refine TC.region ?_
  refine TL.p (EvP.assign rfl) ?_
  refine TL.nil ?_
  refine TX.thenN rfl rfl ?_
  refine TC.seq ?_
  refine TC.block ?_
  refine TC.seq ?_
  refine TC.region ?_
  refine TL.p (EvP.move rfl) ?_
  refine TL.p (EvP.isF (EvP.lt rfl rfl) (by omega)) ?_
  refine TL.p (EvP.move rfl) ?_
  refine TL.gY rfl rfl rfl ?_
  refine TL.p (EvP.move rfl) ?_
  refine TL.gY rfl rfl rfl ?_
  refine TL.p (EvP.isF (EvP.gt rfl rfl) (by omega)) ?_
  refine TL.p (EvP.pickF rfl rfl) ?_
  refine TL.p (EvP.move rfl) ?_
  refine TL.gY rfl rfl rfl ?_
  refine TL.p (EvP.move rfl) ?_
  refine TL.gY rfl rfl rfl ?_
  refine TL.callA rfl rfl Tryd.call31 (fun w hs => rPid_yes hf hs) ?_
  rintro _ rfl
  refine TL.gY rfl rfl rfl ?_
  refine TL.p (EvP.not rfl) ?_
  refine TL.p (EvP.pickF rfl rfl) ?_
  refine TL.p (EvP.move rfl) ?_
  refine TL.gY rfl rfl rfl ?_
  refine TL.p (EvP.move rfl) ?_
  refine TL.gY rfl rfl rfl ?_
  refine TL.callA rfl rfl Tryd.call31 (fun w hs => rPid_yes ht hs) ?_
  rintro _ rfl
  refine TL.gY rfl rfl rfl ?_
  refine TL.p (EvP.not rfl) ?_
  refine TL.p (EvP.pickF rfl rfl) ?_
  refine TL.p (EvP.assign rfl) ?_
  refine TL.nil ?_
  refine TX.thenN rfl rfl ?_
  refine TC.cfalse rfl ?_
  refine TC.seq ?_
  refine TC.region ?_
  refine TL.p (EvP.move rfl) ?_
  refine TL.p (EvP.move rfl) ?_
  refine TL.callA rfl rfl Tryd.call62 (fun w hs => rwatch_spec r hv hlen hs) ?_
  rintro _ rfl
  refine TL.p (EvP.isF (EvP.ge rfl rfl) (by omega)) ?_
  refine TL.p (EvP.assign rfl) ?_
  refine TL.nil ?_
  refine TX.thenN rfl rfl ?_
  refine TC.cfalse rfl ?_
  refine TC.seq ?_
  refine TC.region ?_
  refine TL.p (EvP.move rfl) ?_
  refine TL.p (EvP.nilP rfl) ?_
  refine TL.p (EvP.fa (e := 0) rfl Tryd.runUnderlying80 rfl Tryd.sizeOf71 rfl) ?_
  refine TL.r (EvR.load rfl Tryd.isAgg71 (AtB.own (by repeat (first | exact Has.hd | refine Has.tlb ?_ | refine Has.tlc ?_))) (by rfl)) ?_
  refine TL.p (EvP.lenS Tryd.runUnderlying71 rfl) ?_
  refine TL.p (EvP.isF (EvP.ge rfl rfl) (by omega)) ?_
  refine TL.p (EvP.assign rfl) ?_
  refine TL.nil ?_
  refine TX.thenN rfl rfl ?_
  refine TC.cfalse rfl ?_
  refine TC.skip ?_
  refine TX.blkN ?_
  refine TX.thenN rfl rfl ?_
  refine TC.seq ?_
  refine TC.region ?_
  refine TL.p (EvP.move rfl) ?_
  refine TL.p (EvP.move rfl) ?_
  refine TL.p (EvP.nilP rfl) ?_
  refine TL.p (EvP.fa (e := 0) rfl Tryd.runUnderlying80 rfl Tryd.sizeOf71 rfl) ?_
  refine TL.r (EvR.load rfl Tryd.isAgg71 (AtB.own (by repeat (first | exact Has.hd | refine Has.tlb ?_ | refine Has.tlc ?_))) (by rfl)) ?_
  refine TL.p (EvP.move rfl) ?_
  refine TL.p (EvP.move rfl) ?_
  refine TL.p (EvP.move rfl) ?_
  refine TL.p (EvP.buildS (is := [0, 1, 2]) (xs := [_, _, _]) rfl Tryd.runUnderlying78 Tryd.zeroValue78 rfl (.cons Tryd.sizeOf2 (.cons Tryd.sizeOf2 (.cons Tryd.sizeOf2 .nil))) rfl rfl rfl) ?_
  refine TL.lit1 (⟨f, t, r⟩) rfl elB Tryd.underlying71 (by decide) (by decide) encB_ok rfl (fun u1 D2 hD2 => ?_)
  refine TL.le (Le.hit2 (Le.refl _)) ?_
  refine TL.append rfl rfl elB Tryd.underlying71 encB_ok hv (SrcR.sl Tryd.underlying71 encB_ok hD2 (by simp)) (by simp only [List.length_singleton]; omega) (by decide) (fun v3 C4 hC4 => ?_)
  refine TL.p (EvP.nilP rfl) ?_
  refine TL.p (EvP.fa (e := 0) rfl Tryd.runUnderlying80 rfl Tryd.sizeOf71 rfl) ?_
  refine TL.u (EvU.store1 rfl rfl Tryd.sizeOf71 (by first | rfl | (apply Sl.one; assumption)) (by repeat (first | exact Has.hd | refine Has.tlb ?_ | refine Has.tlc ?_)) (by repeat (first | exact SetL.here | apply SetL.there)) (by repeat (first | exact Upd.hd | apply Upd.tlb | apply Upd.tlc))) ?_
  refine TL.nil ?_
  refine TX.thenN rfl rfl ?_
  refine TC.seq ?_
  refine TC.region ?_
  refine TL.p (EvP.assign rfl) ?_
  refine TL.nil ?_
  refine TX.thenN rfl rfl ?_
  refine TC.ret ?_
  refine TX.done rfl (Res.one rfl rfl) (fun w hs => Post2.mk (C := [(rr, .cells [v3].toArray 80 (0, 0))]) (D := C4) hs ⟨rfl, v3, rfl, hC4⟩ (by repeat (first | exact Le.refl _ | exact Le.nil _ | refine Le.hit ?_ | refine Le.hit1 ?_ | refine Le.hit2 ?_ | refine Le.hit3 ?_ | refine Le.hit4 ?_ | refine Le.hit5 ?_ | refine Le.hit6 ?_ | refine Le.hit7 ?_ | refine Le.hit8 ?_ | refine Le.hit9 ?_ | refine Le.hit10 ?_ | refine Le.skip ?_)))

theorem rof_spec {w0 w : World} {R : List Chunk} {rr : Nat} {a : Option Addr} {cap : Nat} {L : List Bond} {D : Chunk} (pid : Int) (hv : Sl 78 3 Bond.enc (.slice a L.length cap) L D) (hlen : L.length ≤ 1024) (hst : St w0 w ([(rr, .cells [(.slice a L.length cap)].toArray 80 (0, 0))] :: D :: R)) : Calls Tryd.prog 65 #[.pointer (some ⟨rr, 0, none⟩), .int .i64 pid] w (Post1 w0 ([(rr, .cells [(.slice a L.length cap)].toArray 80 (0, 0))] :: D :: R) fun u C => Sl 78 3 Bond.enc u (ofL L pid) C) := by
  refine calls_of (args := [_, _]) Tryd.func65 rfl Tryd.ntmps65 hst ?_
  refine TC.seq ?_
  refine TC.region ?_
  refine TL.p (EvP.assign rfl) ?_
  refine TL.nil ?_
  refine TX.thenN rfl rfl ?_
  refine TC.seq ?_
  refine TC.region ?_
  refine TL.p (EvP.assign rfl) ?_
  refine TL.nil ?_
  refine TX.thenN rfl rfl ?_
  refine TC.seq ?_
  refine TC.seq ?_
  refine TC.region ?_
  refine TL.p (EvP.move rfl) ?_
  refine TL.p (EvP.nilP rfl) ?_
  refine TL.p (EvP.fa (e := 0) rfl Tryd.runUnderlying80 rfl Tryd.sizeOf71 rfl) ?_
  refine TL.r (EvR.load rfl Tryd.isAgg71 (AtB.own (by repeat (first | exact Has.hd | refine Has.tlb ?_ | refine Has.tlc ?_))) (by rfl)) ?_
  refine TL.p (EvP.lenS Tryd.runUnderlying71 rfl) ?_
  refine TL.p (EvP.move rfl) ?_
  refine TL.le Le.nilC ?_
  refine TL.nil ?_
  refine TX.thenN rfl rfl ?_
  refine TC.block ?_
  refine TC.loop (ι := Nat × Value × Chunk) (fun (i, u, Cu) => [(11, (.slice a L.length cap)), (12, .int .i64 L.length), (13, .int .i64 i), (1, .int .i64 pid), (5, u)]) (fun (i, u, Cu) => Cu :: [(rr, .cells [(.slice a L.length cap)].toArray 80 (0, 0))] :: D :: R) (fun (i, u, Cu) => i ≤ L.length ∧ Sl 78 3 Bond.enc u ((L.take i).filter (ofP pid)) Cu) (fun (i, u, Cu) => L.length - i) ((0, .slice none 0 0, [])) (⟨Nat.zero_le _, Sl.nil⟩) ⟨rfl, rfl, rfl, rfl, rfl, trivial⟩ (by repeat (first | exact Le.refl _ | exact Le.nil _ | refine Le.hit ?_ | refine Le.hit1 ?_ | refine Le.hit2 ?_ | refine Le.hit3 ?_ | refine Le.hit4 ?_ | refine Le.hit5 ?_ | refine Le.hit6 ?_ | refine Le.hit7 ?_ | refine Le.hit8 ?_ | refine Le.hit9 ?_ | refine Le.hit10 ?_ | refine Le.skip ?_)) ?_
  rintro ⟨i, u, Cu⟩ ⟨hi, hu⟩
  change TC _ _ [(11, (.slice a L.length cap)), (12, .int .i64 L.length), (13, .int .i64 i), (1, .int .i64 pid), (5, u)] (Cu :: [(rr, .cells [(.slice a L.length cap)].toArray 80 (0, 0))] :: D :: R) _
  refine TC.seq ?_
  refine TC.region ?_
  refine TL.dec (EvP.lt rfl rfl) (fun h14 => ?_) (fun h14 => ?_)
  · refine TL.nil ?_
    refine TX.thenN rfl rfl ?_
    refine TC.seq ?_
    refine TC.ctrue rfl ?_
    refine TC.skip ?_
    refine TX.thenN rfl rfl ?_
    refine TC.seq ?_
    refine TC.block ?_
    refine TC.seq ?_
    refine TC.region ?_
    have hlt : i < L.length := by omega
    obtain ⟨x, hx⟩ : ∃ x, L[i]? = some x := ⟨_, List.getElem?_eq_getElem hlt⟩
    refine TL.elem (hv.el encB_ok hx (by simp)) Tryd.runUnderlying71 Tryd.sizeOf78 rfl rfl (fun bE oE lE _ _ hE hcE => ?_)
    refine TL.r (EvR.loadN (vs := [_, _, _]) rfl Tryd.isAgg78 Tryd.sizeOf78 hE hcE) ?_
    refine TL.alloc Tryd.zeroValue78 rfl (fun b7 => ?_)
    refine TL.u (EvU.store rfl rfl Tryd.sizeOf78 rfl rfl rfl rfl (by repeat (first | exact Has.hd | refine Has.tlb ?_ | refine Has.tlc ?_)) (by repeat (first | exact SetLs.nil | exact SetL.here | apply SetLs.cons | apply SetL.there)) (by repeat (first | exact Upd.hd | apply Upd.tlb | apply Upd.tlc))) ?_
    refine TL.nil ?_
    refine TX.thenN rfl rfl ?_
    refine TC.seq ?_
    refine TC.region ?_
    refine TL.p (EvP.fa (e := 0) rfl Tryd.runUnderlying78 rfl Tryd.sizeOf2 rfl) ?_
    refine TL.r (EvR.load rfl Tryd.isAgg2 (AtB.own (by repeat (first | exact Has.hd | refine Has.tlb ?_ | refine Has.tlc ?_))) (by rfl)) ?_
    refine TL.p (EvP.move rfl) ?_
    refine TL.dec (EvP.eq rfl rfl) (fun h20 => ?_) (fun h20 => ?_)
    · refine TL.p (EvP.move rfl) ?_
      refine TL.gN rfl rfl rfl ?_
      refine TL.gN rfl rfl rfl ?_
      refine TL.gN rfl rfl rfl ?_
      refine TL.gN rfl rfl rfl ?_
      refine TL.p (EvP.pickT rfl rfl) ?_
      refine TL.nil ?_
      refine TX.thenN rfl rfl ?_
      refine TC.ctrue rfl ?_
      refine TC.region ?_
      refine TL.p (EvP.move rfl) ?_
      refine TL.r (EvR.loadN (vs := [_, _, _]) rfl Tryd.isAgg78 Tryd.sizeOf78 (AtB.own (by repeat (first | exact Has.hd | refine Has.tlb ?_ | refine Has.tlc ?_))) (by exact ⟨rfl, rfl, rfl,  trivial⟩)) ?_
      refine TL.lit1 (x) rfl elB Tryd.underlying71 (by decide) (by decide) encB_ok rfl (fun u1 D2 hD2 => ?_)
      refine TL.le (Le.hit2 (Le.refl _)) ?_
      refine TL.append rfl rfl elB Tryd.underlying71 encB_ok hu (SrcR.sl Tryd.underlying71 encB_ok hD2 (by simp)) (by have := List.length_filter_le (ofP pid) (L.take i); rw [List.length_take] at this; simp only [List.length_singleton]; omega) (by decide) (fun v3 C4 hC4 => ?_)
      refine TL.p (EvP.assign rfl) ?_
      refine TL.nil ?_
      refine TX.blkN ?_
      refine TX.thenN rfl rfl ?_
      refine TC.region ?_
      refine TL.p (EvP.add rfl rfl (by omega)) ?_
      refine TL.p (EvP.move rfl) ?_
      refine TL.nil ?_
      refine TX.back ((i + 1, v3, C4)) (⟨by omega, by rw [filter_yes hx (by simp_all [ofP])]; exact hC4⟩) (by simp only; omega) ⟨rfl, rfl, rfl, rfl, rfl, trivial⟩ (by repeat (first | exact Le.refl _ | exact Le.nil _ | refine Le.hit ?_ | refine Le.hit1 ?_ | refine Le.hit2 ?_ | refine Le.hit3 ?_ | refine Le.hit4 ?_ | refine Le.hit5 ?_ | refine Le.hit6 ?_ | refine Le.hit7 ?_ | refine Le.hit8 ?_ | refine Le.hit9 ?_ | refine Le.hit10 ?_ | refine Le.skip ?_))
    · refine TL.p (EvP.move rfl) ?_
      refine TL.gY rfl rfl rfl ?_
      refine TL.p (EvP.fa (e := 1) rfl Tryd.runUnderlying78 rfl Tryd.sizeOf2 rfl) ?_
      refine TL.gY rfl rfl rfl ?_
      refine TL.r (EvR.load rfl Tryd.isAgg2 (AtB.own (by repeat (first | exact Has.hd | refine Has.tlb ?_ | refine Has.tlc ?_))) (by rfl)) ?_
      refine TL.gY rfl rfl rfl ?_
      refine TL.p (EvP.move rfl) ?_
      refine TL.gY rfl rfl rfl ?_
      refine TL.dec (EvP.eq rfl rfl) (fun h25 => ?_) (fun h25 => ?_)
      · refine TL.p (EvP.pickF rfl rfl) ?_
        refine TL.nil ?_
        refine TX.thenN rfl rfl ?_
        refine TC.ctrue rfl ?_
        refine TC.region ?_
        refine TL.p (EvP.move rfl) ?_
        refine TL.r (EvR.loadN (vs := [_, _, _]) rfl Tryd.isAgg78 Tryd.sizeOf78 (AtB.own (by repeat (first | exact Has.hd | refine Has.tlb ?_ | refine Has.tlc ?_))) (by exact ⟨rfl, rfl, rfl,  trivial⟩)) ?_
        refine TL.lit1 (x) rfl elB Tryd.underlying71 (by decide) (by decide) encB_ok rfl (fun u5 D6 hD6 => ?_)
        refine TL.le (Le.hit2 (Le.refl _)) ?_
        refine TL.append rfl rfl elB Tryd.underlying71 encB_ok hu (SrcR.sl Tryd.underlying71 encB_ok hD6 (by simp)) (by have := List.length_filter_le (ofP pid) (L.take i); rw [List.length_take] at this; simp only [List.length_singleton]; omega) (by decide) (fun v7 C8 hC8 => ?_)
        refine TL.p (EvP.assign rfl) ?_
        refine TL.nil ?_
        refine TX.blkN ?_
        refine TX.thenN rfl rfl ?_
        refine TC.region ?_
        refine TL.p (EvP.add rfl rfl (by omega)) ?_
        refine TL.p (EvP.move rfl) ?_
        refine TL.nil ?_
        refine TX.back ((i + 1, v7, C8)) (⟨by omega, by rw [filter_yes hx (by simp_all [ofP])]; exact hC8⟩) (by simp only; omega) ⟨rfl, rfl, rfl, rfl, rfl, trivial⟩ (by repeat (first | exact Le.refl _ | exact Le.nil _ | refine Le.hit ?_ | refine Le.hit1 ?_ | refine Le.hit2 ?_ | refine Le.hit3 ?_ | refine Le.hit4 ?_ | refine Le.hit5 ?_ | refine Le.hit6 ?_ | refine Le.hit7 ?_ | refine Le.hit8 ?_ | refine Le.hit9 ?_ | refine Le.hit10 ?_ | refine Le.skip ?_))
      · refine TL.p (EvP.pickF rfl rfl) ?_
        refine TL.nil ?_
        refine TX.thenN rfl rfl ?_
        refine TC.cfalse rfl ?_
        refine TC.skip ?_
        refine TX.blkN ?_
        refine TX.thenN rfl rfl ?_
        refine TC.region ?_
        refine TL.p (EvP.add rfl rfl (by omega)) ?_
        refine TL.p (EvP.move rfl) ?_
        refine TL.nil ?_
        refine TX.back ((i + 1, u, Cu)) (⟨by omega, by rw [filter_no hx (by simp_all [ofP])]; exact hu⟩) (by simp only; omega) ⟨rfl, rfl, rfl, rfl, rfl, trivial⟩ (by repeat (first | exact Le.refl _ | exact Le.nil _ | refine Le.hit ?_ | refine Le.hit1 ?_ | refine Le.hit2 ?_ | refine Le.hit3 ?_ | refine Le.hit4 ?_ | refine Le.hit5 ?_ | refine Le.hit6 ?_ | refine Le.hit7 ?_ | refine Le.hit8 ?_ | refine Le.hit9 ?_ | refine Le.hit10 ?_ | refine Le.skip ?_))
  · refine TL.nil ?_
    refine TX.thenN rfl rfl ?_
    refine TC.seq ?_
    refine TC.cfalse rfl ?_
    refine TC.exit ?_
    refine TX.thenE ?_
    refine TX.thenE ?_
    refine TX.blkH ?_
    refine TX.thenN rfl rfl ?_
    refine TC.seq ?_
    refine TC.region ?_
    refine TL.p (EvP.move rfl) ?_
    refine TL.p (EvP.assign rfl) ?_
    refine TL.nil ?_
    refine TX.thenN rfl rfl ?_
    refine TC.ret ?_
    have hi3 : i = L.length := by omega
    subst hi3
    rw [List.take_length] at hu
    refine TX.done rfl (Res.one rfl rfl) (fun w hs => Post1.mk (C := Cu) hs hu (by repeat (first | exact Le.refl _ | exact Le.nil _ | refine Le.hit ?_ | refine Le.hit1 ?_ | refine Le.hit2 ?_ | refine Le.hit3 ?_ | refine Le.hit4 ?_ | refine Le.hit5 ?_ | refine Le.hit6 ?_ | refine Le.hit7 ?_ | refine Le.hit8 ?_ | refine Le.hit9 ?_ | refine Le.hit10 ?_ | refine Le.skip ?_)))

end Go.Proofs.YtdbpandamnkpdaaDoor
