/-
  The walk of LinksNil: of a nil graph.
-/
import Derived.Test.YtnmljhhbabjlcaaLm
set_option linter.unusedSimpArgs false
set_option linter.unusedVariables false
set_option maxRecDepth 4000
namespace Go.Proofs.Ytnmljhhbabjlcaa
open Go Go.RowKit

theorem n_two {w0 w : World} {R : List Chunk} {a b : Int} (hst : St w0 w R) : Calls Try.prog 49 #[.pointer none, .int .i64 a, .int .i64 b] w (Post0 w0 R fun u => u = .int .i64 2) := by
  refine calls_of (args := [_, _, _]) Try.func49 rfl Try.ntmps49 hst ?_
  refine TC.seq ?_
  refine TC.region ?_
  refine TL.p (EvP.assign rfl) ?_
  refine TL.nil ?_
  refine TX.thenN rfl rfl ?_
  refine TC.seq ?_
  refine TC.block ?_
  refine TC.seq ?_
  refine TC.region ?_
  refine TL.p (EvP.move rfl) ?_
  refine TL.p (EvP.eqPtrNil Try.runUnderlying24 rfl rfl) ?_
  refine TL.p (EvP.assign rfl) ?_
  refine TL.nil ?_
  refine TX.thenN rfl rfl ?_
  refine TC.ctrue rfl ?_
  refine TC.seq ?_
  refine TC.region ?_
  refine TL.p (EvP.assign rfl) ?_
  refine TL.nil ?_
  refine TX.thenN rfl rfl ?_
  refine TC.ret ?_
  refine TX.blkR ?_
  refine TX.thenR ?_
  refine TX.done rfl (Res.one rfl rfl) (fun w hs => Post0.mk hs ?_ (by repeat (first | exact Le.refl _ | exact Le.nil _ | refine Le.hit ?_ | refine Le.hit1 ?_ | refine Le.hit2 ?_ | refine Le.hit3 ?_ | refine Le.hit4 ?_ | refine Le.hit5 ?_ | refine Le.hit6 ?_ | refine Le.skip ?_)))
  rfl

theorem n_link {w0 w : World} {R : List Chunk} {a b : Int} (hst : St w0 w R) : Calls Try.prog 30 #[.pointer none, .int .i64 a, .int .i64 b] w (Post0 w0 R fun u => u = .int .i64 2) := by
  refine calls_of (args := [_, _, _]) Try.func30 rfl Try.ntmps30 hst ?_
  refine TC.seq ?_
  refine TC.region ?_
  refine TL.p (EvP.assign rfl) ?_
  refine TL.nil ?_
  refine TX.thenN rfl rfl ?_
  refine TC.seq ?_
  refine TC.seq ?_
  refine TC.region ?_
  refine TL.p (EvP.move rfl) ?_
  refine TL.p (EvP.move rfl) ?_
  refine TL.p (EvP.move rfl) ?_
  refine TL.callA rfl rfl Try.call49 (fun w hs => n_two hs) ?_
  rintro _ rfl
  refine TL.p (EvP.assign rfl) ?_
  refine TL.nil ?_
  refine TX.thenN rfl rfl ?_
  refine TC.seq ?_
  refine TC.region ?_
  refine TL.p (EvP.move rfl) ?_
  refine TL.p (EvP.ne rfl rfl) ?_
  refine TL.nil ?_
  refine TX.thenN rfl rfl ?_
  refine TC.ctrue rfl ?_
  refine TC.seq ?_
  refine TC.region ?_
  refine TL.p (EvP.move rfl) ?_
  refine TL.p (EvP.assign rfl) ?_
  refine TL.nil ?_
  refine TX.thenN rfl rfl ?_
  refine TC.ret ?_
  refine TX.thenR ?_
  refine TX.done rfl (Res.one rfl rfl) (fun w hs => Post0.mk hs ?_ (by repeat (first | exact Le.refl _ | exact Le.nil _ | refine Le.hit ?_ | refine Le.hit1 ?_ | refine Le.hit2 ?_ | refine Le.hit3 ?_ | refine Le.hit4 ?_ | refine Le.hit5 ?_ | refine Le.hit6 ?_ | refine Le.skip ?_)))
  rfl

theorem n_unlink {w0 w : World} {R : List Chunk} {a b : Int} (hst : St w0 w R) : Calls Try.prog 31 #[.pointer none, .int .i64 a, .int .i64 b] w (Post0 w0 R fun u => u = .int .i64 2) := by
  refine calls_of (args := [_, _, _]) Try.func31 rfl Try.ntmps31 hst ?_
  refine TC.seq ?_
  refine TC.region ?_
  refine TL.p (EvP.assign rfl) ?_
  refine TL.nil ?_
  refine TX.thenN rfl rfl ?_
  refine TC.seq ?_
  refine TC.seq ?_
  refine TC.region ?_
  refine TL.p (EvP.move rfl) ?_
  refine TL.p (EvP.move rfl) ?_
  refine TL.p (EvP.move rfl) ?_
  refine TL.callA rfl rfl Try.call49 (fun w hs => n_two hs) ?_
  rintro _ rfl
  refine TL.p (EvP.assign rfl) ?_
  refine TL.nil ?_
  refine TX.thenN rfl rfl ?_
  refine TC.seq ?_
  refine TC.region ?_
  refine TL.p (EvP.move rfl) ?_
  refine TL.p (EvP.ne rfl rfl) ?_
  refine TL.nil ?_
  refine TX.thenN rfl rfl ?_
  refine TC.ctrue rfl ?_
  refine TC.seq ?_
  refine TC.region ?_
  refine TL.p (EvP.move rfl) ?_
  refine TL.p (EvP.assign rfl) ?_
  refine TL.nil ?_
  refine TX.thenN rfl rfl ?_
  refine TC.ret ?_
  refine TX.thenR ?_
  refine TX.done rfl (Res.one rfl rfl) (fun w hs => Post0.mk hs ?_ (by repeat (first | exact Le.refl _ | exact Le.nil _ | refine Le.hit ?_ | refine Le.hit1 ?_ | refine Le.hit2 ?_ | refine Le.hit3 ?_ | refine Le.hit4 ?_ | refine Le.hit5 ?_ | refine Le.hit6 ?_ | refine Le.skip ?_)))
  rfl

theorem n_watch {w0 w : World} {R : List Chunk} {r a b : Int} (hst : St w0 w R) : Calls Try.prog 11 #[.pointer none, .int .i64 r, .int .i64 a, .int .i64 b] w (Post0 w0 R fun u => u = .int .i64 2) := by
  refine calls_of (args := [_, _, _, _]) Try.func11 rfl Try.ntmps11 hst ?_
  refine TC.seq ?_
  refine TC.region ?_
  refine TL.p (EvP.assign rfl) ?_
  refine TL.nil ?_
  refine TX.thenN rfl rfl ?_
  refine TC.seq ?_
  refine TC.block ?_
  refine TC.seq ?_
  refine TC.region ?_
  refine TL.p (EvP.move rfl) ?_
  refine TL.p (EvP.eqPtrNil Try.runUnderlying24 rfl rfl) ?_
  refine TL.p (EvP.assign rfl) ?_
  refine TL.nil ?_
  refine TX.thenN rfl rfl ?_
  refine TC.ctrue rfl ?_
  refine TC.seq ?_
  refine TC.region ?_
  refine TL.p (EvP.assign rfl) ?_
  refine TL.nil ?_
  refine TX.thenN rfl rfl ?_
  refine TC.ret ?_
  refine TX.blkR ?_
  refine TX.thenR ?_
  refine TX.done rfl (Res.one rfl rfl) (fun w hs => Post0.mk hs ?_ (by repeat (first | exact Le.refl _ | exact Le.nil _ | refine Le.hit ?_ | refine Le.hit1 ?_ | refine Le.hit2 ?_ | refine Le.hit3 ?_ | refine Le.hit4 ?_ | refine Le.hit5 ?_ | refine Le.hit6 ?_ | refine Le.skip ?_)))
  rfl

theorem n_find {w0 w : World} {R : List Chunk} {r : Int} (hst : St w0 w R) : Calls Try.prog 29 #[.pointer none, .int .i64 r] w (Post0 w0 R fun u => u = .tuple #[Bond.zero.v, .int .i64 2]) := by
  refine calls_of (args := [_, _]) Try.func29 rfl Try.ntmps29 hst ?_
  refine TC.seq ?_
  refine TC.region ?_
  refine TL.alloc Try.zeroValue48 rfl (fun b4 => ?_)
  refine TL.p (EvP.assign rfl) ?_
  refine TL.nil ?_
  refine TX.thenN rfl rfl ?_
  refine TC.seq ?_
  refine TC.block ?_
  refine TC.seq ?_
  refine TC.region ?_
  refine TL.p (EvP.move rfl) ?_
  refine TL.p (EvP.eqPtrNil Try.runUnderlying24 rfl rfl) ?_
  refine TL.p (EvP.assign rfl) ?_
  refine TL.nil ?_
  refine TX.thenN rfl rfl ?_
  refine TC.ctrue rfl ?_
  refine TC.seq ?_
  refine TC.region ?_
  refine TL.p (EvP.buildS (is := []) (xs := []) rfl Try.runUnderlying48 Try.zeroValue48 rfl (.cons Try.sizeOf2 (.cons Try.sizeOf2 (.cons Try.sizeOf2 .nil))) rfl rfl rfl) ?_
  refine TL.u (EvU.store rfl rfl Try.sizeOf48 rfl rfl rfl rfl (by repeat (first | exact Has.hd | refine Has.tlb ?_ | refine Has.tlc ?_)) (by repeat (first | exact SetLs.nil | exact SetL.here | apply SetLs.cons | apply SetL.there)) (by repeat (first | exact Upd.hd | apply Upd.tlb | apply Upd.tlc))) ?_
  refine TL.p (EvP.assign rfl) ?_
  refine TL.nil ?_
  refine TX.thenN rfl rfl ?_
  refine TC.ret ?_
  refine TX.blkR ?_
  refine TX.thenR ?_
  refine TX.done rfl (Res.ct rfl rfl (run_loadN (vs := [_, _, _]) Try.isAgg48 Try.sizeOf48 (AtB.own (by repeat (first | exact Has.hd | refine Has.tlb ?_ | refine Has.tlc ?_))) (by exact ⟨rfl, rfl, rfl, trivial⟩)) rfl) (fun w hs => Post0.mk hs ?_ (by repeat (first | exact Le.refl _ | exact Le.nil _ | refine Le.hit ?_ | refine Le.hit1 ?_ | refine Le.hit2 ?_ | refine Le.hit3 ?_ | refine Le.hit4 ?_ | refine Le.hit5 ?_ | refine Le.hit6 ?_ | refine Le.skip ?_)))
  rfl

theorem n_leave {w0 w : World} {R : List Chunk} {r : Int} (hst : St w0 w R) : Calls Try.prog 28 #[.pointer none, .int .i64 r] w (Post0 w0 R fun u => u = .tuple #[Bond.zero.v, .int .i64 2]) := by
  refine calls_of (args := [_, _]) Try.func28 rfl Try.ntmps28 hst ?_
  refine TC.seq ?_
  refine TC.region ?_
  refine TL.alloc Try.zeroValue48 rfl (fun b4 => ?_)
  refine TL.p (EvP.assign rfl) ?_
  refine TL.nil ?_
  refine TX.thenN rfl rfl ?_
  refine TC.seq ?_
  refine TC.region ?_
  refine TL.p (EvP.move rfl) ?_
  refine TL.p (EvP.move rfl) ?_
  refine TL.callA rfl rfl Try.call29 (fun w hs => n_find hs) ?_
  rintro _ rfl
  refine TL.p (EvP.move rfl) ?_
  refine TL.p (EvP.extract rfl rfl) ?_
  refine TL.p (EvP.extract rfl rfl) ?_
  refine TL.alloc Try.zeroValue48 rfl (fun b6 => ?_)
  refine TL.u (EvU.store rfl rfl Try.sizeOf48 rfl rfl rfl rfl (by repeat (first | exact Has.hd | refine Has.tlb ?_ | refine Has.tlc ?_)) (by repeat (first | exact SetLs.nil | exact SetL.here | apply SetLs.cons | apply SetL.there)) (by repeat (first | exact Upd.hd | apply Upd.tlb | apply Upd.tlc))) ?_
  refine TL.p (EvP.assign rfl) ?_
  refine TL.nil ?_
  refine TX.thenN rfl rfl ?_
  refine TC.seq ?_
  refine TC.seq ?_
  refine TC.region ?_
  refine TL.p (EvP.move rfl) ?_
  refine TL.p (EvP.eq rfl rfl) ?_
  refine TL.nil ?_
  refine TX.thenN rfl rfl ?_
  refine TC.cfalse rfl ?_
  refine TC.skip ?_
  refine TX.thenN rfl rfl ?_
  refine TC.seq ?_
  refine TC.region ?_
  refine TL.r (EvR.loadN (vs := [_, _, _]) rfl Try.isAgg48 Try.sizeOf48 (AtB.own (by repeat (first | exact Has.hd | refine Has.tlb ?_ | refine Has.tlc ?_))) (by exact ⟨rfl, rfl, rfl,  trivial⟩)) ?_
  refine TL.p (EvP.move rfl) ?_
  refine TL.u (EvU.store rfl rfl Try.sizeOf48 rfl rfl rfl rfl (by repeat (first | exact Has.hd | refine Has.tlb ?_ | refine Has.tlc ?_)) (by repeat (first | exact SetLs.nil | exact SetL.here | apply SetLs.cons | apply SetL.there)) (by repeat (first | exact Upd.hd | apply Upd.tlb | apply Upd.tlc))) ?_
  refine TL.p (EvP.assign rfl) ?_
  refine TL.nil ?_
  refine TX.thenN rfl rfl ?_
  refine TC.ret ?_
  refine TX.done rfl (Res.ct rfl rfl (run_loadN (vs := [_, _, _]) Try.isAgg48 Try.sizeOf48 (AtB.own (by repeat (first | exact Has.hd | refine Has.tlb ?_ | refine Has.tlc ?_))) (by exact ⟨rfl, rfl, rfl, trivial⟩)) rfl) (fun w hs => Post0.mk hs ?_ (by repeat (first | exact Le.refl _ | exact Le.nil _ | refine Le.hit ?_ | refine Le.hit1 ?_ | refine Le.hit2 ?_ | refine Le.hit3 ?_ | refine Le.hit4 ?_ | refine Le.hit5 ?_ | refine Le.hit6 ?_ | refine Le.skip ?_)))
  rfl

theorem n_end {w0 w : World} {R : List Chunk} {p : Int} (hst : St w0 w R) : Calls Try.prog 19 #[.pointer none, .int .i64 p] w (Post0 w0 R fun u => u = .tuple #[.slice none 0 0, .int .i64 2]) := by
  refine calls_of (args := [_, _]) Try.func19 rfl Try.ntmps19 hst ?_
  refine TC.seq ?_
  refine TC.region ?_
  refine TL.p (EvP.assign rfl) ?_
  refine TL.p (EvP.assign rfl) ?_
  refine TL.nil ?_
  refine TX.thenN rfl rfl ?_
  refine TC.seq ?_
  refine TC.block ?_
  refine TC.seq ?_
  refine TC.region ?_
  refine TL.p (EvP.move rfl) ?_
  refine TL.p (EvP.eqPtrNil Try.runUnderlying24 rfl rfl) ?_
  refine TL.p (EvP.assign rfl) ?_
  refine TL.nil ?_
  refine TX.thenN rfl rfl ?_
  refine TC.ctrue rfl ?_
  refine TC.seq ?_
  refine TC.region ?_
  refine TL.p (EvP.assign rfl) ?_
  refine TL.p (EvP.assign rfl) ?_
  refine TL.nil ?_
  refine TX.thenN rfl rfl ?_
  refine TC.ret ?_
  refine TX.blkR ?_
  refine TX.thenR ?_
  refine TX.done rfl (Res.two rfl rfl rfl) (fun w hs => Post0.mk hs ?_ (by repeat (first | exact Le.refl _ | exact Le.nil _ | refine Le.hit ?_ | refine Le.hit1 ?_ | refine Le.hit2 ?_ | refine Le.hit3 ?_ | refine Le.hit4 ?_ | refine Le.hit5 ?_ | refine Le.hit6 ?_ | refine Le.skip ?_)))
  rfl

theorem n_linked {w0 w : World} {R : List Chunk} {a b : Int} (hst : St w0 w R) : Calls Try.prog 26 #[.pointer none, .int .i64 a, .int .i64 b] w (Post0 w0 R fun u => u = .bool false) := by
  refine calls_of (args := [_, _, _]) Try.func26 rfl Try.ntmps26 hst ?_
  refine TC.seq ?_
  refine TC.region ?_
  refine TL.p (EvP.assign rfl) ?_
  refine TL.nil ?_
  refine TX.thenN rfl rfl ?_
  refine TC.seq ?_
  refine TC.drawn (listed := #[false, false, false, false, false, false, false, false, false, false, false, false, false, false]) 14 (SH w0 []) rfl rfl rfl rfl (fun w hs => SH.of hs (by repeat (first | exact Le.refl _ | exact Le.nil _ | refine Le.hit ?_ | refine Le.hit1 ?_ | refine Le.hit2 ?_ | refine Le.hit3 ?_ | refine Le.hit4 ?_ | refine Le.hit5 ?_ | refine Le.hit6 ?_ | refine Le.skip ?_))) ?_
  refine TR.take 0 rfl (by kernel_rfl) (by kernel_rfl) (by kernel_rfl) (EvP.r (by exact EvP.move rfl)) (l' := #[true, false, false, false, false, false, false, false, false, false, false, false, false, false]) rfl ?_
  refine TR.take 1 rfl (by kernel_rfl) (by kernel_rfl) (by kernel_rfl) (EvP.r (by exact EvP.nePtrNil Try.runUnderlying24 rfl rfl)) (l' := #[true, true, false, false, false, false, false, false, false, false, false, false, false, false]) rfl ?_
  refine TR.take 2 rfl (by kernel_rfl) (by kernel_rfl) (by kernel_rfl) (EvP.r (by exact EvP.move rfl)) (l' := #[true, true, true, false, false, false, false, false, false, false, false, false, false, false]) rfl ?_
  refine TR.takeN 3 rfl rfl rfl rfl (by kernel_rfl) (by kernel_rfl) (by kernel_rfl) (l' := #[true, true, true, true, false, false, false, false, false, false, false, false, false, false]) rfl ?_
  refine TR.takeN 4 rfl rfl rfl rfl (by kernel_rfl) (by kernel_rfl) (by kernel_rfl) (l' := #[true, true, true, true, true, false, false, false, false, false, false, false, false, false]) rfl ?_
  refine TR.takeN 5 rfl rfl rfl rfl (by kernel_rfl) (by kernel_rfl) (by kernel_rfl) (l' := #[true, true, true, true, true, true, false, false, false, false, false, false, false, false]) rfl ?_
  refine TR.takeN 6 rfl rfl rfl rfl (by kernel_rfl) (by kernel_rfl) (by kernel_rfl) (l' := #[true, true, true, true, true, true, true, false, false, false, false, false, false, false]) rfl ?_
  refine TR.takeN 7 rfl rfl rfl rfl (by kernel_rfl) (by kernel_rfl) (by kernel_rfl) (l' := #[true, true, true, true, true, true, true, true, false, false, false, false, false, false]) rfl ?_
  refine TR.takeN 8 rfl rfl rfl rfl (by kernel_rfl) (by kernel_rfl) (by kernel_rfl) (l' := #[true, true, true, true, true, true, true, true, true, false, false, false, false, false]) rfl ?_
  refine TR.takeN 9 rfl rfl rfl rfl (by kernel_rfl) (by kernel_rfl) (by kernel_rfl) (l' := #[true, true, true, true, true, true, true, true, true, true, false, false, false, false]) rfl ?_
  refine TR.takeN 10 rfl rfl rfl rfl (by kernel_rfl) (by kernel_rfl) (by kernel_rfl) (l' := #[true, true, true, true, true, true, true, true, true, true, true, false, false, false]) rfl ?_
  refine TR.takeN 11 rfl rfl rfl rfl (by kernel_rfl) (by kernel_rfl) (by kernel_rfl) (l' := #[true, true, true, true, true, true, true, true, true, true, true, true, false, false]) rfl ?_
  refine TR.take 12 rfl (by kernel_rfl) (by kernel_rfl) (by kernel_rfl) (EvP.r (by exact EvP.pickF rfl rfl)) (l' := #[true, true, true, true, true, true, true, true, true, true, true, true, true, false]) rfl ?_
  refine TR.take 13 rfl (by kernel_rfl) (by kernel_rfl) (by kernel_rfl) (EvP.r (by exact EvP.assign rfl)) (l' := #[true, true, true, true, true, true, true, true, true, true, true, true, true, true]) rfl ?_
  refine TR.done (by kernel_rfl) ?_
  refine TX.thenN rfl rfl ?_
  refine TC.ret ?_
  refine TX.done rfl (Res.one rfl rfl) (fun w hs => Post0.mk hs ?_ (by repeat (first | exact Le.refl _ | exact Le.nil _ | refine Le.hit ?_ | refine Le.hit1 ?_ | refine Le.hit2 ?_ | refine Le.hit3 ?_ | refine Le.hit4 ?_ | refine Le.hit5 ?_ | refine Le.hit6 ?_ | refine Le.skip ?_)))
  rfl

theorem n_len {w0 w : World} {R : List Chunk} (hst : St w0 w R) : Calls Try.prog 22 #[.pointer none] w (Post0 w0 R fun u => u = .int .i64 0) := by
  refine calls_of (args := [_]) Try.func22 rfl Try.ntmps22 hst ?_
  refine TC.seq ?_
  refine TC.region ?_
  refine TL.p (EvP.assign rfl) ?_
  refine TL.nil ?_
  refine TX.thenN rfl rfl ?_
  refine TC.seq ?_
  refine TC.seq ?_
  refine TC.region ?_
  refine TL.p (EvP.move rfl) ?_
  refine TL.p (EvP.eqPtrNil Try.runUnderlying24 rfl rfl) ?_
  refine TL.nil ?_
  refine TX.thenN rfl rfl ?_
  refine TC.ctrue rfl ?_
  refine TC.seq ?_
  refine TC.region ?_
  refine TL.p (EvP.assign rfl) ?_
  refine TL.nil ?_
  refine TX.thenN rfl rfl ?_
  refine TC.ret ?_
  refine TX.thenR ?_
  refine TX.done rfl (Res.one rfl rfl) (fun w hs => Post0.mk hs ?_ (by repeat (first | exact Le.refl _ | exact Le.nil _ | refine Le.hit ?_ | refine Le.hit1 ?_ | refine Le.hit2 ?_ | refine Le.hit3 ?_ | refine Le.hit4 ?_ | refine Le.hit5 ?_ | refine Le.hit6 ?_ | refine Le.skip ?_)))
  rfl

theorem n_order {w0 w : World} {R : List Chunk} (hst : St w0 w R) : Calls Try.prog 41 #[.pointer none] w (Post0 w0 R fun u => u = .slice none 0 0) := by
  refine calls_of (args := [_]) Try.func41 rfl Try.ntmps41 hst ?_
  refine TC.seq ?_
  refine TC.region ?_
  refine TL.p (EvP.assign rfl) ?_
  refine TL.nil ?_
  refine TX.thenN rfl rfl ?_
  refine TC.seq ?_
  refine TC.seq ?_
  refine TC.region ?_
  refine TL.p (EvP.move rfl) ?_
  refine TL.p (EvP.eqPtrNil Try.runUnderlying24 rfl rfl) ?_
  refine TL.nil ?_
  refine TX.thenN rfl rfl ?_
  refine TC.ctrue rfl ?_
  refine TC.seq ?_
  refine TC.region ?_
  refine TL.p (EvP.assign rfl) ?_
  refine TL.nil ?_
  refine TX.thenN rfl rfl ?_
  refine TC.ret ?_
  refine TX.thenR ?_
  refine TX.done rfl (Res.one rfl rfl) (fun w hs => Post0.mk hs ?_ (by repeat (first | exact Le.refl _ | exact Le.nil _ | refine Le.hit ?_ | refine Le.hit1 ?_ | refine Le.hit2 ?_ | refine Le.hit3 ?_ | refine Le.hit4 ?_ | refine Le.hit5 ?_ | refine Le.hit6 ?_ | refine Le.skip ?_)))
  rfl

theorem n_peers {w0 w : World} {R : List Chunk} {p : Int} (hst : St w0 w R) : Calls Try.prog 25 #[.pointer none, .int .i64 p] w (Post0 w0 R fun u => u = .slice none 0 0) := by
  refine calls_of (args := [_, _]) Try.func25 rfl Try.ntmps25 hst ?_
  refine TC.seq ?_
  refine TC.region ?_
  refine TL.box rfl rfl (fun b3 => ?_)
  refine TL.p (EvP.assign rfl) ?_
  refine TL.nil ?_
  refine TX.thenN rfl rfl ?_
  refine TC.seq ?_
  refine TC.seq ?_
  refine TC.region ?_
  refine TL.p (EvP.move rfl) ?_
  refine TL.p (EvP.eqPtrNil Try.runUnderlying24 rfl rfl) ?_
  refine TL.nil ?_
  refine TX.thenN rfl rfl ?_
  refine TC.ctrue rfl ?_
  refine TC.seq ?_
  refine TC.region ?_
  refine TL.p (EvP.assign rfl) ?_
  refine TL.nil ?_
  refine TX.thenN rfl rfl ?_
  refine TC.ret ?_
  refine TX.thenR ?_
  refine TX.done rfl (Res.one rfl rfl) (fun w hs => Post0.mk hs ?_ (by repeat (first | exact Le.refl _ | exact Le.nil _ | refine Le.hit ?_ | refine Le.hit1 ?_ | refine Le.hit2 ?_ | refine Le.hit3 ?_ | refine Le.hit4 ?_ | refine Le.hit5 ?_ | refine Le.hit6 ?_ | refine Le.skip ?_)))
  rfl

theorem n_group {w0 w : World} {R : List Chunk} {p : Int} (hst : St w0 w R) : Calls Try.prog 23 #[.pointer none, .int .i64 p] w (Post0 w0 R fun u => u = .slice none 0 0) := by
  refine calls_of (args := [_, _]) Try.func23 rfl Try.ntmps23 hst ?_
  refine TC.seq ?_
  refine TC.region ?_
  refine TL.p (EvP.assign rfl) ?_
  refine TL.nil ?_
  refine TX.thenN rfl rfl ?_
  refine TC.seq ?_
  refine TC.seq ?_
  refine TC.region ?_
  refine TL.p (EvP.move rfl) ?_
  refine TL.p (EvP.eqPtrNil Try.runUnderlying24 rfl rfl) ?_
  refine TL.p (EvP.move rfl) ?_
  refine TL.gN rfl rfl rfl ?_
  refine TL.gN rfl rfl rfl ?_
  refine TL.gN rfl rfl rfl ?_
  refine TL.p (EvP.pickT rfl rfl) ?_
  refine TL.nil ?_
  refine TX.thenN rfl rfl ?_
  refine TC.ctrue rfl ?_
  refine TC.seq ?_
  refine TC.region ?_
  refine TL.p (EvP.assign rfl) ?_
  refine TL.nil ?_
  refine TX.thenN rfl rfl ?_
  refine TC.ret ?_
  refine TX.thenR ?_
  refine TX.done rfl (Res.one rfl rfl) (fun w hs => Post0.mk hs ?_ (by repeat (first | exact Le.refl _ | exact Le.nil _ | refine Le.hit ?_ | refine Le.hit1 ?_ | refine Le.hit2 ?_ | refine Le.hit3 ?_ | refine Le.hit4 ?_ | refine Le.hit5 ?_ | refine Le.hit6 ?_ | refine Le.skip ?_)))
  rfl

theorem n_iter {b1 b2 : Nat} {q : Value} : Iter Try.prog 59 [.pointer (some ⟨b1, 0, none⟩), .pointer (some ⟨b2, 0, none⟩)] [[(b1, .cells [.pointer none].toArray 24 (0, 0))], [(b2, .cells [q].toArray 83 (0, 0))]] [] := by
  intro w0 l J Jx hy R w hJ0 hst
  refine calls_of (args := [_, _, _]) Try.func59 rfl Try.ntmps59 hst ?_
  refine TC.seq ?_
  refine TC.region ?_
  refine TL.r (EvR.load rfl Try.isAgg24 (AtB.own (by repeat (first | exact Has.hd | refine Has.tlb ?_ | refine Has.tlc ?_))) (by rfl)) ?_
  refine TL.callA rfl rfl Try.call41 (fun w hs => n_order hs) ?_
  rintro _ rfl
  refine TL.p (EvP.lenS Try.runUnderlying50 rfl) ?_
  refine TL.p (EvP.move rfl) ?_
  refine TL.nil ?_
  refine TX.thenN rfl rfl ?_
  refine TC.block ?_
  refine TC.loop (ι := Unit) (fun _ => [(9, .int .i64 0), (10, .int .i64 0)]) (fun _ => [(b1, .cells [.pointer none].toArray 24 (0, 0))] :: [(b2, .cells [q].toArray 83 (0, 0))] :: R) (fun _ => True) (fun _ => 0) (()) (trivial) ⟨rfl, rfl, trivial⟩ (by repeat (first | exact Le.refl _ | exact Le.nil _ | refine Le.hit ?_ | refine Le.hit1 ?_ | refine Le.hit2 ?_ | refine Le.hit3 ?_ | refine Le.hit4 ?_ | refine Le.hit5 ?_ | refine Le.hit6 ?_ | refine Le.skip ?_)) ?_
  rintro _ _
  change TC _ _ [(9, .int .i64 0), (10, .int .i64 0)] ([(b1, .cells [.pointer none].toArray 24 (0, 0))] :: [(b2, .cells [q].toArray 83 (0, 0))] :: R) _
  refine TC.seq ?_
  refine TC.region ?_
  refine TL.p (EvP.lt rfl rfl) ?_
  refine TL.nil ?_
  refine TX.thenN rfl rfl ?_
  refine TC.seq ?_
  refine TC.cfalse rfl ?_
  refine TC.exit ?_
  refine TX.thenE ?_
  refine TX.thenE ?_
  refine TX.blkH ?_
  refine TX.doneN rfl (Res.none rfl) (fun w hs => ⟨rfl, R, .inl hJ0, hs⟩)

theorem n_every {w0 w : World} {R : List Chunk} {most : Int} (hst : St w0 w R) : Calls Try.prog 15 #[.pointer none, .int .i64 most] w (Post0 w0 R fun u => u = .slice none 0 0) := by
  refine calls_of (args := [_, _]) Try.func15 rfl Try.ntmps15 hst ?_
  refine TC.seq ?_
  refine TC.region ?_
  refine TL.box rfl rfl (fun b3 => ?_)
  refine TL.p (EvP.assign rfl) ?_
  refine TL.nil ?_
  refine TX.thenN rfl rfl ?_
  refine TC.seq ?_
  refine TC.region ?_
  refine TL.alloc Try.zeroValue27 rfl (fun b5 => ?_)
  refine TL.nil ?_
  refine TX.thenN rfl rfl ?_
  refine TC.seq ?_
  refine TC.region ?_
  refine TL.p (EvP.move rfl) ?_
  refine TL.callC rfl rfl Try.call40 (fun w hs => All_spec hs) ?_
  rintro _ _ _ ⟨b1, b2, rfl, rfl, rfl⟩
  refine TL.p (EvP.assign rfl) ?_
  refine TL.nil ?_
  refine TX.thenN rfl rfl ?_
  refine TC.seq ?_
  refine TC.seq ?_
  refine TC.region ?_
  refine TL.p (EvP.move rfl) ?_
  refine TL.p (EvP.eqFnNil Try.runUnderlying69 rfl rfl) ?_
  refine TL.nil ?_
  refine TX.thenN rfl rfl ?_
  refine TC.cfalse rfl ?_
  refine TC.skip ?_
  refine TX.thenN rfl rfl ?_
  refine TC.seq ?_
  refine TC.seq ?_
  refine TC.region ?_
  refine TL.p (EvP.move rfl) ?_
  refine TL.nil ?_
  refine TX.thenN rfl rfl ?_
  refine TC.block ?_
  refine TC.le (H' := [(b1, .cells [.pointer none].toArray 24 (0, 0))] :: [(b2, .cells [.func (.func 54) #[] #[]].toArray 83 (0, 0))] :: [(b5, .cells [.slice none 0 0].toArray 27 (0, 0))] :: R) (by repeat (first | exact Le.refl _ | exact Le.nil _ | refine Le.hit ?_ | refine Le.hit1 ?_ | refine Le.hit2 ?_ | refine Le.hit3 ?_ | refine Le.hit4 ?_ | refine Le.hit5 ?_ | refine Le.hit6 ?_ | refine Le.skip ?_)) ?_
  refine TC.rangeF (Hit := [[(b1, .cells [.pointer none].toArray 24 (0, 0))], [(b2, .cells [.func (.func 54) #[] #[]].toArray 83 (0, 0))]]) (R0 := [(b5, .cells [.slice none 0 0].toArray 27 (0, 0))] :: R) rfl rfl Try.call59 n_iter (by intro x hx; cases hx) rfl (Le.refl _) (fun i R2 => R2 = [(b5, .cells [.slice none 0 0].toArray 27 (0, 0))] :: R) (fun _ _ => False) rfl ?_ ?_ ?_
  · intro l i x R2 HL HL2 hx; simp at hx
  · rintro dd _ rfl
    refine TX.le Le.comm2 ?_
    refine TX.blkN ?_
    refine TX.thenN rfl rfl ?_
    refine TC.seq ?_
    refine TC.region ?_
    refine TL.r (EvR.load rfl Try.isAgg27 (AtB.own (by repeat (first | exact Has.hd | refine Has.tlb ?_ | refine Has.tlc ?_))) (by rfl)) ?_
    refine TL.p (EvP.assign rfl) ?_
    refine TL.nil ?_
    refine TX.thenN rfl rfl ?_
    refine TC.ret ?_
    refine TX.doneM rfl (by repeat (first | exact Upd.hd | apply Upd.tlb | apply Upd.tlc)) (Res.one rfl rfl) (fun w hs => Post0.mk hs rfl (by simp only [List.cons_append, List.nil_append]; repeat (first | exact Le.refl _ | exact Le.nil _ | refine Le.hit ?_ | refine Le.hit1 ?_ | refine Le.hit2 ?_ | refine Le.hit3 ?_ | refine Le.hit4 ?_ | refine Le.hit5 ?_ | refine Le.hit6 ?_ | refine Le.skip ?_)))
  · intro _ _ _ h; exact h.elim

theorem n_of {w0 w : World} {R : List Chunk} {pid most : Int} (hst : St w0 w R) : Calls Try.prog 21 #[.pointer none, .int .i64 pid, .int .i64 most] w (Post0 w0 R fun u => u = .slice none 0 0) := by
  refine calls_of (args := [_, _, _]) Try.func21 rfl Try.ntmps21 hst ?_
  refine TC.seq ?_
  refine TC.region ?_
  refine TL.box rfl rfl (fun b5 => ?_)
  refine TL.p (EvP.assign rfl) ?_
  refine TL.nil ?_
  refine TX.thenN rfl rfl ?_
  refine TC.seq ?_
  refine TC.region ?_
  refine TL.alloc Try.zeroValue27 rfl (fun b7 => ?_)
  refine TL.nil ?_
  refine TX.thenN rfl rfl ?_
  refine TC.seq ?_
  refine TC.region ?_
  refine TL.p (EvP.move rfl) ?_
  refine TL.p (EvP.move rfl) ?_
  refine TL.callD rfl rfl Try.call43 (fun w hs => Of_spec hs) ?_
  rintro _ _ _ _ ⟨b1, b2, p, rfl, rfl, rfl, rfl⟩
  refine TL.p (EvP.assign rfl) ?_
  refine TL.nil ?_
  refine TX.thenN rfl rfl ?_
  refine TC.seq ?_
  refine TC.seq ?_
  refine TC.region ?_
  refine TL.p (EvP.move rfl) ?_
  refine TL.p (EvP.eqFnNil Try.runUnderlying69 rfl rfl) ?_
  refine TL.nil ?_
  refine TX.thenN rfl rfl ?_
  refine TC.cfalse rfl ?_
  refine TC.skip ?_
  refine TX.thenN rfl rfl ?_
  refine TC.seq ?_
  refine TC.seq ?_
  refine TC.region ?_
  refine TL.p (EvP.move rfl) ?_
  refine TL.nil ?_
  refine TX.thenN rfl rfl ?_
  refine TC.block ?_
  refine TC.le (H' := [(b1, .cells [.pointer none].toArray 24 (0, 0))] :: [(b2, .cells [.func (.func 55) #[] #[.pointer (some ⟨p, 0, none⟩)]].toArray 83 (0, 0))] :: [(b7, .cells [.slice none 0 0].toArray 27 (0, 0))] :: R) (by repeat (first | exact Le.refl _ | exact Le.nil _ | refine Le.hit ?_ | refine Le.hit1 ?_ | refine Le.hit2 ?_ | refine Le.hit3 ?_ | refine Le.hit4 ?_ | refine Le.hit5 ?_ | refine Le.hit6 ?_ | refine Le.skip ?_)) ?_
  refine TC.rangeF (Hit := [[(b1, .cells [.pointer none].toArray 24 (0, 0))], [(b2, .cells [.func (.func 55) #[] #[.pointer (some ⟨p, 0, none⟩)]].toArray 83 (0, 0))]]) (R0 := [(b7, .cells [.slice none 0 0].toArray 27 (0, 0))] :: R) rfl rfl Try.call59 n_iter (by intro x hx; cases hx) rfl (Le.refl _) (fun i R2 => R2 = [(b7, .cells [.slice none 0 0].toArray 27 (0, 0))] :: R) (fun _ _ => False) rfl ?_ ?_ ?_
  · intro l i x R2 HL HL2 hx; simp at hx
  · rintro dd _ rfl
    refine TX.le Le.comm2 ?_
    refine TX.blkN ?_
    refine TX.thenN rfl rfl ?_
    refine TC.seq ?_
    refine TC.region ?_
    refine TL.r (EvR.load rfl Try.isAgg27 (AtB.own (by repeat (first | exact Has.hd | refine Has.tlb ?_ | refine Has.tlc ?_))) (by rfl)) ?_
    refine TL.p (EvP.assign rfl) ?_
    refine TL.nil ?_
    refine TX.thenN rfl rfl ?_
    refine TC.ret ?_
    refine TX.doneM rfl (by repeat (first | exact Upd.hd | apply Upd.tlb | apply Upd.tlc)) (Res.one rfl rfl) (fun w hs => Post0.mk hs rfl (by simp only [List.cons_append, List.nil_append]; repeat (first | exact Le.refl _ | exact Le.nil _ | refine Le.hit ?_ | refine Le.hit1 ?_ | refine Le.hit2 ?_ | refine Le.hit3 ?_ | refine Le.hit4 ?_ | refine Le.hit5 ?_ | refine Le.hit6 ?_ | refine Le.skip ?_)))
  · intro _ _ _ h; exact h.elim

theorem nil_walk {w0 w : World} {R : List Chunk} (a b r : Int) (hst : St w0 w R) : Calls Try.prog 8 #[.int .i64 a, .int .i64 b, .int .i64 r] w (Post0 w0 R fun u => u = .bool true) := by
  refine calls_of (args := [_, _, _]) Try.func8 rfl Try.ntmps8 hst ?_
  refine TC.seq ?_
  refine TC.region ?_
  refine TL.p (EvP.assign rfl) ?_
  refine TL.nil ?_
  refine TX.thenN rfl rfl ?_
  refine TC.seq ?_
  refine TC.region ?_
  refine TL.p (EvP.assign rfl) ?_
  refine TL.nil ?_
  refine TX.thenN rfl rfl ?_
  refine TC.seq ?_
  refine TC.region ?_
  refine TL.p (EvP.move rfl) ?_
  refine TL.p (EvP.move rfl) ?_
  refine TL.callA rfl rfl Try.call28 (fun w hs => n_leave hs) ?_
  rintro _ rfl
  refine TL.p (EvP.move rfl) ?_
  refine TL.p (EvP.extract rfl rfl) ?_
  refine TL.p (EvP.extract rfl rfl) ?_
  refine TL.alloc Try.zeroValue48 rfl (fun b8 => ?_)
  refine TL.u (EvU.store rfl rfl Try.sizeOf48 rfl rfl rfl rfl (by repeat (first | exact Has.hd | refine Has.tlb ?_ | refine Has.tlc ?_)) (by repeat (first | exact SetLs.nil | exact SetL.here | apply SetLs.cons | apply SetL.there)) (by repeat (first | exact Upd.hd | apply Upd.tlb | apply Upd.tlc))) ?_
  refine TL.p (EvP.assign rfl) ?_
  refine TL.nil ?_
  refine TX.thenN rfl rfl ?_
  refine TC.seq ?_
  refine TC.region ?_
  refine TL.p (EvP.move rfl) ?_
  refine TL.p (EvP.move rfl) ?_
  refine TL.callA rfl rfl Try.call29 (fun w hs => n_find hs) ?_
  rintro _ rfl
  refine TL.p (EvP.move rfl) ?_
  refine TL.p (EvP.extract rfl rfl) ?_
  refine TL.p (EvP.extract rfl rfl) ?_
  refine TL.alloc Try.zeroValue48 rfl (fun b10 => ?_)
  refine TL.u (EvU.store rfl rfl Try.sizeOf48 rfl rfl rfl rfl (by repeat (first | exact Has.hd | refine Has.tlb ?_ | refine Has.tlc ?_)) (by repeat (first | exact SetLs.nil | exact SetL.here | apply SetLs.cons | apply SetL.there)) (by repeat (first | exact Upd.hd | apply Upd.tlb | apply Upd.tlc))) ?_
  refine TL.p (EvP.assign rfl) ?_
  refine TL.nil ?_
  refine TX.thenN rfl rfl ?_
  refine TC.seq ?_
  refine TC.region ?_
  refine TL.p (EvP.move rfl) ?_
  refine TL.p (EvP.move rfl) ?_
  refine TL.callA rfl rfl Try.call19 (fun w hs => n_end hs) ?_
  rintro _ rfl
  refine TL.p (EvP.move rfl) ?_
  refine TL.p (EvP.extract rfl rfl) ?_
  refine TL.p (EvP.extract rfl rfl) ?_
  refine TL.p (EvP.assign rfl) ?_
  refine TL.p (EvP.assign rfl) ?_
  refine TL.nil ?_
  refine TX.thenN rfl rfl ?_
  refine TC.seq ?_
  refine TC.seq ?_
  refine TC.region ?_
  refine TL.p (EvP.move rfl) ?_
  refine TL.p (EvP.move rfl) ?_
  refine TL.p (EvP.move rfl) ?_
  refine TL.callA rfl rfl Try.call30 (fun w hs => n_link hs) ?_
  rintro _ rfl
  refine TL.p (EvP.ne rfl rfl) ?_
  refine TL.p (EvP.move rfl) ?_
  refine TL.gY rfl rfl rfl ?_
  refine TL.p (EvP.move rfl) ?_
  refine TL.gY rfl rfl rfl ?_
  refine TL.p (EvP.move rfl) ?_
  refine TL.gY rfl rfl rfl ?_
  refine TL.p (EvP.move rfl) ?_
  refine TL.gY rfl rfl rfl ?_
  refine TL.callA rfl rfl Try.call31 (fun w hs => n_unlink hs) ?_
  rintro _ rfl
  refine TL.gY rfl rfl rfl ?_
  refine TL.p (EvP.ne rfl rfl) ?_
  refine TL.p (EvP.pickF rfl rfl) ?_
  refine TL.p (EvP.move rfl) ?_
  refine TL.gY rfl rfl rfl ?_
  refine TL.p (EvP.move rfl) ?_
  refine TL.gY rfl rfl rfl ?_
  refine TL.p (EvP.move rfl) ?_
  refine TL.gY rfl rfl rfl ?_
  refine TL.p (EvP.move rfl) ?_
  refine TL.gY rfl rfl rfl ?_
  refine TL.p (EvP.move rfl) ?_
  refine TL.gY rfl rfl rfl ?_
  refine TL.callA rfl rfl Try.call11 (fun w hs => n_watch hs) ?_
  rintro _ rfl
  refine TL.gY rfl rfl rfl ?_
  refine TL.p (EvP.ne rfl rfl) ?_
  refine TL.p (EvP.pickF rfl rfl) ?_
  refine TL.p (EvP.move rfl) ?_
  refine TL.gY rfl rfl rfl ?_
  refine TL.p (EvP.move rfl) ?_
  refine TL.gY rfl rfl rfl ?_
  refine TL.p (EvP.ne rfl rfl) ?_
  refine TL.p (EvP.pickF rfl rfl) ?_
  refine TL.p (EvP.move rfl) ?_
  refine TL.gY rfl rfl rfl ?_
  refine TL.p (EvP.move rfl) ?_
  refine TL.gY rfl rfl rfl ?_
  refine TL.p (EvP.ne rfl rfl) ?_
  refine TL.p (EvP.pickF rfl rfl) ?_
  refine TL.p (EvP.move rfl) ?_
  refine TL.gY rfl rfl rfl ?_
  refine TL.p (EvP.move rfl) ?_
  refine TL.gY rfl rfl rfl ?_
  refine TL.p (EvP.ne rfl rfl) ?_
  refine TL.p (EvP.pickF rfl rfl) ?_
  refine TL.nil ?_
  refine TX.thenN rfl rfl ?_
  refine TC.cfalse rfl ?_
  refine TC.skip ?_
  refine TX.thenN rfl rfl ?_
  refine TC.seq ?_
  refine TC.seq ?_
  refine TC.region ?_
  refine TL.r (EvR.loadN (vs := [_, _, _]) rfl Try.isAgg48 Try.sizeOf48 (AtB.own (by repeat (first | exact Has.hd | refine Has.tlb ?_ | refine Has.tlc ?_))) (by exact ⟨rfl, rfl, rfl,  trivial⟩)) ?_
  refine TL.p (EvP.buildS (is := []) (xs := []) rfl Try.runUnderlying48 Try.zeroValue48 rfl (.cons Try.sizeOf2 (.cons Try.sizeOf2 (.cons Try.sizeOf2 .nil))) rfl rfl rfl) ?_
  refine TL.p (neSame Bond.zero) ?_
  refine TL.p (EvP.move rfl) ?_
  refine TL.gY rfl rfl rfl ?_
  refine TL.r (EvR.loadN (vs := [_, _, _]) rfl Try.isAgg48 Try.sizeOf48 (AtB.own (by repeat (first | exact Has.hd | refine Has.tlb ?_ | refine Has.tlc ?_))) (by exact ⟨rfl, rfl, rfl,  trivial⟩)) ?_
  refine TL.gY rfl rfl rfl ?_
  refine TL.p (EvP.buildS (is := []) (xs := []) rfl Try.runUnderlying48 Try.zeroValue48 rfl (.cons Try.sizeOf2 (.cons Try.sizeOf2 (.cons Try.sizeOf2 .nil))) rfl rfl rfl) ?_
  refine TL.gY rfl rfl rfl ?_
  refine TL.p (neSame Bond.zero) ?_
  refine TL.p (EvP.pickF rfl rfl) ?_
  refine TL.p (EvP.move rfl) ?_
  refine TL.gY rfl rfl rfl ?_
  refine TL.p (EvP.move rfl) ?_
  refine TL.gY rfl rfl rfl ?_
  refine TL.p (EvP.lenS Try.runUnderlying27 rfl) ?_
  refine TL.gY rfl rfl rfl ?_
  refine TL.p (EvP.gt rfl rfl) ?_
  refine TL.p (EvP.pickF rfl rfl) ?_
  refine TL.p (EvP.move rfl) ?_
  refine TL.gY rfl rfl rfl ?_
  refine TL.p (EvP.move rfl) ?_
  refine TL.gY rfl rfl rfl ?_
  refine TL.p (EvP.move rfl) ?_
  refine TL.gY rfl rfl rfl ?_
  refine TL.p (EvP.move rfl) ?_
  refine TL.gY rfl rfl rfl ?_
  refine TL.callA rfl rfl Try.call26 (fun w hs => n_linked hs) ?_
  rintro _ rfl
  refine TL.p (EvP.pickF rfl rfl) ?_
  refine TL.p (EvP.move rfl) ?_
  refine TL.gY rfl rfl rfl ?_
  refine TL.p (EvP.move rfl) ?_
  refine TL.gY rfl rfl rfl ?_
  refine TL.callA rfl rfl Try.call22 (fun w hs => n_len hs) ?_
  rintro _ rfl
  refine TL.gY rfl rfl rfl ?_
  refine TL.p (EvP.ne rfl rfl) ?_
  refine TL.p (EvP.pickF rfl rfl) ?_
  refine TL.nil ?_
  refine TX.thenN rfl rfl ?_
  refine TC.cfalse rfl ?_
  refine TC.skip ?_
  refine TX.thenN rfl rfl ?_
  refine TC.seq ?_
  refine TC.region ?_
  refine TL.p (EvP.move rfl) ?_
  refine TL.p (EvP.move rfl) ?_
  refine TL.callA rfl rfl Try.call21 (fun w hs => n_of hs) ?_
  rintro _ rfl
  refine TL.p (EvP.lenS Try.runUnderlying27 rfl) ?_
  refine TL.p (EvP.eq rfl rfl) ?_
  refine TL.p (EvP.move rfl) ?_
  refine TL.gY rfl rfl rfl ?_
  refine TL.p (EvP.move rfl) ?_
  refine TL.gY rfl rfl rfl ?_
  refine TL.callA rfl rfl Try.call15 (fun w hs => n_every hs) ?_
  rintro _ rfl
  refine TL.gY rfl rfl rfl ?_
  refine TL.p (EvP.lenS Try.runUnderlying27 rfl) ?_
  refine TL.gY rfl rfl rfl ?_
  refine TL.p (EvP.eq rfl rfl) ?_
  refine TL.p (EvP.pickT rfl rfl) ?_
  refine TL.p (EvP.move rfl) ?_
  refine TL.gY rfl rfl rfl ?_
  refine TL.p (EvP.move rfl) ?_
  refine TL.gY rfl rfl rfl ?_
  refine TL.p (EvP.move rfl) ?_
  refine TL.gY rfl rfl rfl ?_
  refine TL.callA rfl rfl Try.call25 (fun w hs => n_peers hs) ?_
  rintro _ rfl
  refine TL.gY rfl rfl rfl ?_
  refine TL.p (EvP.lenS Try.runUnderlying50 rfl) ?_
  refine TL.gY rfl rfl rfl ?_
  refine TL.p (EvP.eq rfl rfl) ?_
  refine TL.p (EvP.pickT rfl rfl) ?_
  refine TL.p (EvP.move rfl) ?_
  refine TL.gY rfl rfl rfl ?_
  refine TL.p (EvP.move rfl) ?_
  refine TL.gY rfl rfl rfl ?_
  refine TL.p (EvP.move rfl) ?_
  refine TL.gY rfl rfl rfl ?_
  refine TL.callA rfl rfl Try.call23 (fun w hs => n_group hs) ?_
  rintro _ rfl
  refine TL.gY rfl rfl rfl ?_
  refine TL.p (EvP.lenS Try.runUnderlying50 rfl) ?_
  refine TL.gY rfl rfl rfl ?_
  refine TL.p (EvP.eq rfl rfl) ?_
  refine TL.p (EvP.pickT rfl rfl) ?_
  refine TL.p (EvP.move rfl) ?_
  refine TL.gY rfl rfl rfl ?_
  refine TL.callA rfl rfl Try.call16 (fun w hs => awake_spec hs) ?_
  rintro _ rfl
  refine TL.p (EvP.pickT rfl rfl) ?_
  refine TL.p (EvP.assign rfl) ?_
  refine TL.nil ?_
  refine TX.thenN rfl rfl ?_
  refine TC.ret ?_
  refine TX.done rfl (Res.one rfl rfl) (fun w hs => Post0.mk hs ?_ (by repeat (first | exact Le.refl _ | exact Le.nil _ | refine Le.hit ?_ | refine Le.hit1 ?_ | refine Le.hit2 ?_ | refine Le.hit3 ?_ | refine Le.hit4 ?_ | refine Le.hit5 ?_ | refine Le.hit6 ?_ | refine Le.skip ?_)))
  rfl
end Go.Proofs.Ytnmljhhbabjlcaa
