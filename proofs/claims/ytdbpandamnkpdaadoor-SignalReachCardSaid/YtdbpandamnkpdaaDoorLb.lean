/-
  Walks of the graph's inner functions: a pid's test, a pair in order, a bond put in, a bond taken out.
-/
import Derived.Test.YtdbpandamnkpdaaDoorLa
import Derived.Test.YtdbpandamnkpdaaDoorSo
set_option linter.unusedSimpArgs false
set_option linter.unusedVariables false
namespace Go.Proofs.YtdbpandamnkpdaaDoor
open Go Go.RowKit

theorem kB : KL Tryd.prog 2 kI := KL.int Tryd.runUnderlying2
theorem kR : KL Tryd.prog 2 kI := KL.int Tryd.runUnderlying2
theorem kPr : KL Tryd.prog 93 kP := KL.pair (τ := 2) Tryd.underlying93 (by kernel_rfl) ⟨by decide, rfl, rfl⟩ ⟨by decide, rfl, rfl⟩ Tryd.runUnderlying2 Tryd.isAgg2

theorem isPid_spec {w0 w : World} {R : List Chunk} (n : Int) (hst : St w0 w R) : Calls Tryd.prog 58 #[.int .i64 n] w (Post0 w0 R fun v => v = .bool (okPid n)) := by
  refine calls_of (args := [_]) Tryd.func58 rfl Tryd.ntmps58 hst ?_
  refine TC.seq ?_
  refine TC.region ?_
  refine TL.p (EvP.assign rfl) ?_
  refine TL.nil ?_
  refine TX.thenN rfl rfl ?_
  refine TC.seq ?_
  refine TC.region ?_
  refine TL.p (EvP.move rfl) ?_
  refine TL.dec (EvP.ge rfl rfl) (fun h4 => ?_) (fun h4 => ?_)
  · refine TL.p (EvP.move rfl) ?_
    refine TL.gY rfl rfl rfl ?_
    refine TL.p (EvP.move rfl) ?_
    refine TL.gY rfl rfl rfl ?_
    refine TL.p (EvP.le rfl rfl) ?_
    refine TL.p (EvP.pickT rfl rfl) ?_
    refine TL.p (EvP.assign rfl) ?_
    refine TL.nil ?_
    refine TX.thenN rfl rfl ?_
    refine TC.ret ?_
    refine TX.done rfl (Res.one rfl rfl) (fun w hs => Post0.mk hs ?_ (by repeat (first | exact Le.refl _ | exact Le.nil _ | refine Le.hit ?_ | refine Le.hit1 ?_ | refine Le.hit2 ?_ | refine Le.hit3 ?_ | refine Le.hit4 ?_ | refine Le.hit5 ?_ | refine Le.hit6 ?_ | refine Le.hit7 ?_ | refine Le.hit8 ?_ | refine Le.hit9 ?_ | refine Le.hit10 ?_ | refine Le.skip ?_)))
    simp [okPid]; omega
  · refine TL.p (EvP.move rfl) ?_
    refine TL.gN rfl rfl rfl ?_
    refine TL.gN rfl rfl rfl ?_
    refine TL.p (EvP.pickF rfl rfl) ?_
    refine TL.p (EvP.assign rfl) ?_
    refine TL.nil ?_
    refine TX.thenN rfl rfl ?_
    refine TC.ret ?_
    refine TX.done rfl (Res.one rfl rfl) (fun w hs => Post0.mk hs ?_ (by repeat (first | exact Le.refl _ | exact Le.nil _ | refine Le.hit ?_ | refine Le.hit1 ?_ | refine Le.hit2 ?_ | refine Le.hit3 ?_ | refine Le.hit4 ?_ | refine Le.hit5 ?_ | refine Le.hit6 ?_ | refine Le.hit7 ?_ | refine Le.hit8 ?_ | refine Le.hit9 ?_ | refine Le.hit10 ?_ | refine Le.skip ?_)))
    simp [okPid]; omega

theorem pairOf_spec {w0 w : World} {R : List Chunk} (a b : Int) (hst : St w0 w R) : Calls Tryd.prog 51 #[.int .i64 a, .int .i64 b] w (Post0 w0 R fun v => v = kP (min a b, max a b)) := by
  refine calls_of (args := [_, _]) Tryd.func51 rfl Tryd.ntmps51 hst ?_
  refine TC.seq ?_
  refine TC.region ?_
  refine TL.alloc Tryd.zeroValue93 rfl (fun b4 => ?_)
  refine TL.nil ?_
  refine TX.thenN rfl rfl ?_
  refine TC.seq ?_
  refine TC.region ?_
  refine TL.p (EvP.move rfl) ?_
  refine TL.p (EvP.move rfl) ?_
  refine TL.p (EvP.min rfl rfl) ?_
  refine TL.p (EvP.move rfl) ?_
  refine TL.p (EvP.move rfl) ?_
  refine TL.p (EvP.max rfl rfl) ?_
  refine TL.p (EvP.buildS (is := [0, 1]) (xs := [_, _]) rfl Tryd.runUnderlying93 Tryd.zeroValue93 rfl (.cons Tryd.sizeOf2 (.cons Tryd.sizeOf2 .nil)) rfl rfl rfl) ?_
  refine TL.u (EvU.store rfl rfl Tryd.sizeOf93 rfl rfl rfl rfl (by repeat (first | exact Has.hd | refine Has.tlb ?_ | refine Has.tlc ?_)) (by repeat (first | exact SetLs.nil | exact SetL.here | apply SetLs.cons | apply SetL.there)) (by repeat (first | exact Upd.hd | apply Upd.tlb | apply Upd.tlc))) ?_
  refine TL.nil ?_
  refine TX.thenN rfl rfl ?_
  refine TC.ret ?_
  refine TX.done rfl (Res.c rfl rfl (run_loadN (vs := [_, _]) Tryd.isAgg93 Tryd.sizeOf93 (AtB.own (by repeat (first | exact Has.hd | refine Has.tlb ?_ | refine Has.tlc ?_))) (by exact ⟨rfl, rfl, trivial⟩))) (fun w hs => Post0.mk hs ?_ (by repeat (first | exact Le.refl _ | exact Le.nil _ | refine Le.hit ?_ | refine Le.hit1 ?_ | refine Le.hit2 ?_ | refine Le.hit3 ?_ | refine Le.hit4 ?_ | refine Le.hit5 ?_ | refine Le.hit6 ?_ | refine Le.hit7 ?_ | refine Le.hit8 ?_ | refine Le.hit9 ?_ | refine Le.hit10 ?_ | refine Le.skip ?_)))
  rfl

theorem put_raw {w0 w : World} {R : List Chunk} {g mb ml mr : Nat} {n : Int} {eb : List (Ent Int)} {cb : Nat} (b : Bond) (h0 : 0 ≤ n) (h1 : n < 9223372036854775807) (hn : valOf (n + 1) eb = none) (hst : St w0 w ([(g, .cells [.map (some mb), .int .i64 n, .map (some ml), .map (some mr)].toArray 91 (0, 0))] :: [(mb, mapObj kI eb cb)] :: R)) : Calls Tryd.prog 52 #[.pointer (some ⟨g, 0, none⟩), b.v] w (Post0 w0 ([(g, .cells [.map (some mb), .int .i64 (n + 1), .map (some ml), .map (some mr)].toArray 91 (0, 0))] :: [(mb, mapObj kI (eb ++ [(n + 1, b.v, cb)]) (cb + 1))] :: R) fun v => v = .int .i64 (n + 1)) := by
  refine calls_of (args := [_, _]) Tryd.func52 rfl Tryd.ntmps52 hst ?_
  refine TC.seq ?_
  refine TC.region ?_
  refine TL.box rfl rfl (fun b3 => ?_)
  refine TL.p (EvP.assign rfl) ?_
  refine TL.nil ?_
  refine TX.thenN rfl rfl ?_
  refine TC.seq ?_
  refine TC.region ?_
  refine TL.p (EvP.move rfl) ?_
  refine TL.p (EvP.nilP rfl) ?_
  refine TL.p (EvP.fa (e := 1) rfl Tryd.runUnderlying91 rfl Tryd.sizeOf2 rfl) ?_
  refine TL.r (EvR.load rfl Tryd.isAgg2 (AtB.own (by repeat (first | exact Has.hd | refine Has.tlb ?_ | refine Has.tlc ?_))) (by rfl)) ?_
  refine TL.p (EvP.add rfl rfl (by omega)) ?_
  refine TL.p (EvP.nilP rfl) ?_
  refine TL.p (EvP.fa (e := 1) rfl Tryd.runUnderlying91 rfl Tryd.sizeOf2 rfl) ?_
  refine TL.u (EvU.store rfl rfl Tryd.sizeOf2 rfl rfl rfl rfl (by repeat (first | exact Has.hd | refine Has.tlb ?_ | refine Has.tlc ?_)) (by repeat (first | exact SetLs.nil | exact SetL.here | apply SetLs.cons | apply SetL.there)) (by repeat (first | exact Upd.hd | apply Upd.tlb | apply Upd.tlc))) ?_
  refine TL.nil ?_
  refine TX.thenN rfl rfl ?_
  refine TC.seq ?_
  refine TC.drawn (listed := #[false, false, false, false, false, false, false, false, false, false]) 10 (SH w0 [[(g, .cells [.map (some mb), .int .i64 (n + 1), .map (some ml), .map (some mr)].toArray 91 (0, 0))], [(b3, .cells b.enc.toArray 78 (0, 0))]]) rfl rfl rfl rfl (fun w hs => SH.of hs (by repeat (first | exact Le.refl _ | exact Le.nil _ | refine Le.hit ?_ | refine Le.hit1 ?_ | refine Le.hit2 ?_ | refine Le.hit3 ?_ | refine Le.hit4 ?_ | refine Le.hit5 ?_ | refine Le.hit6 ?_ | refine Le.hit7 ?_ | refine Le.hit8 ?_ | refine Le.hit9 ?_ | refine Le.hit10 ?_ | refine Le.skip ?_))) ?_
  refine TR.take 0 rfl (by kernel_rfl) (by kernel_rfl) (by kernel_rfl) (EvP.r (by exact EvP.move rfl)) (l' := #[true, false, false, false, false, false, false, false, false, false]) rfl ?_
  refine TR.take 1 rfl (by kernel_rfl) (by kernel_rfl) (by kernel_rfl) (EvP.r (by exact EvP.nilP rfl)) (l' := #[true, true, false, false, false, false, false, false, false, false]) rfl ?_
  refine TR.take 2 rfl (by kernel_rfl) (by kernel_rfl) (by kernel_rfl) (EvP.r (by exact EvP.fa (e := 0) rfl Tryd.runUnderlying91 rfl Tryd.sizeOf87 rfl)) (l' := #[true, true, true, false, false, false, false, false, false, false]) rfl ?_
  refine TR.take 3 rfl (by kernel_rfl) (by kernel_rfl) (by kernel_rfl) (EvR.load rfl Tryd.isAgg87 (AtB.own' (by repeat (first | exact Has.hd | refine Has.tlb ?_ | refine Has.tlc ?_))) (by rfl)) (l' := #[true, true, true, true, false, false, false, false, false, false]) rfl ?_
  refine TR.take 4 rfl (by kernel_rfl) (by kernel_rfl) (by kernel_rfl) (EvP.r (by exact EvP.move rfl)) (l' := #[true, true, true, true, true, false, false, false, false, false]) rfl ?_
  refine TR.take 5 rfl (by kernel_rfl) (by kernel_rfl) (by kernel_rfl) (EvP.r (by exact EvP.nilP rfl)) (l' := #[true, true, true, true, true, true, false, false, false, false]) rfl ?_
  refine TR.take 6 rfl (by kernel_rfl) (by kernel_rfl) (by kernel_rfl) (EvP.r (by exact EvP.fa (e := 1) rfl Tryd.runUnderlying91 rfl Tryd.sizeOf2 rfl)) (l' := #[true, true, true, true, true, true, true, false, false, false]) rfl ?_
  refine TR.take 7 rfl (by kernel_rfl) (by kernel_rfl) (by kernel_rfl) (EvR.load rfl Tryd.isAgg2 (AtB.own' (by repeat (first | exact Has.hd | refine Has.tlb ?_ | refine Has.tlc ?_))) (by rfl)) (l' := #[true, true, true, true, true, true, true, true, false, false]) rfl ?_
  refine TR.take 8 rfl (by kernel_rfl) (by kernel_rfl) (by kernel_rfl) (EvR.loadN (vs := [_, _, _]) rfl Tryd.isAgg78 Tryd.sizeOf78 (AtB.own' (by repeat (first | exact Has.hd | refine Has.tlb ?_ | refine Has.tlc ?_))) (by exact ⟨rfl, rfl, rfl,  trivial⟩)) (l' := #[true, true, true, true, true, true, true, true, true, false]) rfl ?_
  refine TR.one (i := 9) (by kernel_rfl) ?_
  refine TRi.u rfl (EvU.putNew kB Tryd.runUnderlying87 rfl rfl rfl hn (by repeat (first | exact Upd.hd | apply Upd.tlb | apply Upd.tlc))) (fun w hs => SH.of hs (by repeat (first | exact Le.refl _ | exact Le.nil _ | refine Le.hit ?_ | refine Le.hit1 ?_ | refine Le.hit2 ?_ | refine Le.hit3 ?_ | refine Le.hit4 ?_ | refine Le.hit5 ?_ | refine Le.hit6 ?_ | refine Le.hit7 ?_ | refine Le.hit8 ?_ | refine Le.hit9 ?_ | refine Le.hit10 ?_ | refine Le.skip ?_))) (l' := #[true, true, true, true, true, true, true, true, true, true]) rfl ?_
  refine TR.done (by kernel_rfl) ?_
  refine TX.thenN rfl rfl ?_
  refine TC.seq ?_
  refine TC.region ?_
  refine TL.p (EvP.move rfl) ?_
  refine TL.p (EvP.nilP rfl) ?_
  refine TL.p (EvP.fa (e := 1) rfl Tryd.runUnderlying91 rfl Tryd.sizeOf2 rfl) ?_
  refine TL.r (EvR.load rfl Tryd.isAgg2 (AtB.own (by repeat (first | exact Has.hd | refine Has.tlb ?_ | refine Has.tlc ?_))) (by rfl)) ?_
  refine TL.p (EvP.assign rfl) ?_
  refine TL.nil ?_
  refine TX.thenN rfl rfl ?_
  refine TC.ret ?_
  refine TX.done rfl (Res.one rfl rfl) (fun w hs => Post0.mk hs ?_ (by repeat (first | exact Le.refl _ | exact Le.nil _ | refine Le.hit ?_ | refine Le.hit1 ?_ | refine Le.hit2 ?_ | refine Le.hit3 ?_ | refine Le.hit4 ?_ | refine Le.hit5 ?_ | refine Le.hit6 ?_ | refine Le.hit7 ?_ | refine Le.hit8 ?_ | refine Le.hit9 ?_ | refine Le.hit10 ?_ | refine Le.skip ?_)))
  rfl

theorem out_raw0 {w0 w : World} {R : List Chunk} {g mb ml mr : Nat} {n : Int} {eb : List (Ent Int)} {cb : Nat} {el : List (Ent (Int × Int))} {cl : Nat} {b : Bond} {num : Int} (hb : valOf num eb = some b.v) (hr : b.r = 0) (hst : St w0 w ([(g, .cells [.map (some mb), .int .i64 n, .map (some ml), .map (some mr)].toArray 91 (0, 0))] :: [(mb, mapObj kI eb cb)] :: [(ml, mapObj kP el cl)] :: R)) : Calls Tryd.prog 60 #[.pointer (some ⟨g, 0, none⟩), .int .i64 num] w (Post0 w0 ([(g, .cells [.map (some mb), .int .i64 n, .map (some ml), .map (some mr)].toArray 91 (0, 0))] :: [(mb, mapObj kI (delE num eb) cb)] :: [(ml, mapObj kP (delE (b.f, b.t) el) cl)] :: R) fun _ => True) := by
  refine calls_of (args := [_, _]) Tryd.func60 rfl Tryd.ntmps60 hst ?_
  refine TC.seq ?_
  refine TC.region ?_
  refine TL.p (EvP.move rfl) ?_
  refine TL.p (EvP.nilP rfl) ?_
  refine TL.p (EvP.fa (e := 0) rfl Tryd.runUnderlying91 rfl Tryd.sizeOf87 rfl) ?_
  refine TL.r (EvR.load rfl Tryd.isAgg87 (AtB.own (by repeat (first | exact Has.hd | refine Has.tlb ?_ | refine Has.tlc ?_))) (by rfl)) ?_
  refine TL.p (EvP.move rfl) ?_
  refine TL.r (EvR.lookupY kB Tryd.runUnderlying87 Tryd.zeroValue78 hb rfl rfl (AtB.own (by repeat (first | exact Has.hd | refine Has.tlb ?_ | refine Has.tlc ?_)))) ?_
  refine TL.alloc Tryd.zeroValue78 rfl (fun b4 => ?_)
  refine TL.u (EvU.store rfl rfl Tryd.sizeOf78 rfl rfl rfl rfl (by repeat (first | exact Has.hd | refine Has.tlb ?_ | refine Has.tlc ?_)) (by repeat (first | exact SetLs.nil | exact SetL.here | apply SetLs.cons | apply SetL.there)) (by repeat (first | exact Upd.hd | apply Upd.tlb | apply Upd.tlc))) ?_
  refine TL.nil ?_
  refine TX.thenN rfl rfl ?_
  refine TC.seq ?_
  refine TC.region ?_
  refine TL.p (EvP.move rfl) ?_
  refine TL.p (EvP.nilP rfl) ?_
  refine TL.p (EvP.fa (e := 0) rfl Tryd.runUnderlying91 rfl Tryd.sizeOf87 rfl) ?_
  refine TL.r (EvR.load rfl Tryd.isAgg87 (AtB.own (by repeat (first | exact Has.hd | refine Has.tlb ?_ | refine Has.tlc ?_))) (by rfl)) ?_
  refine TL.p (EvP.move rfl) ?_
  refine TL.delete0 kB Tryd.runUnderlying87 rfl rfl (by repeat (first | exact Upd.hd | apply Upd.tlb | apply Upd.tlc)) ?_
  refine TL.nil ?_
  refine TX.thenN rfl rfl ?_
  refine TC.seq ?_
  refine TC.region ?_
  refine TL.p (EvP.fa (e := 2) rfl Tryd.runUnderlying78 rfl Tryd.sizeOf2 rfl) ?_
  refine TL.r (EvR.load rfl Tryd.isAgg2 (AtB.own (by repeat (first | exact Has.hd | refine Has.tlb ?_ | refine Has.tlc ?_))) (by rfl)) ?_
  refine TL.p (EvP.eq rfl rfl) ?_
  rw [decide_eq_true hr]
  refine TL.nil ?_
  refine TX.thenN rfl rfl ?_
  refine TC.ctrue rfl ?_
  refine TC.drawn (listed := #[false, false, false, false, false, false, false, false, false, false]) 10 (SH w0 [[(g, .cells [.map (some mb), .int .i64 n, .map (some ml), .map (some mr)].toArray 91 (0, 0))], [(b4, .cells b.enc.toArray 78 (0, 0))]]) rfl rfl rfl rfl (fun w hs => SH.of hs (by repeat (first | exact Le.refl _ | exact Le.nil _ | refine Le.hit ?_ | refine Le.hit1 ?_ | refine Le.hit2 ?_ | refine Le.hit3 ?_ | refine Le.hit4 ?_ | refine Le.hit5 ?_ | refine Le.hit6 ?_ | refine Le.hit7 ?_ | refine Le.hit8 ?_ | refine Le.hit9 ?_ | refine Le.hit10 ?_ | refine Le.skip ?_))) ?_
  refine TR.take 0 rfl (by kernel_rfl) (by kernel_rfl) (by kernel_rfl) (EvP.r (by exact EvP.move rfl)) (l' := #[true, false, false, false, false, false, false, false, false, false]) rfl ?_
  refine TR.take 1 rfl (by kernel_rfl) (by kernel_rfl) (by kernel_rfl) (EvP.r (by exact EvP.nilP rfl)) (l' := #[true, true, false, false, false, false, false, false, false, false]) rfl ?_
  refine TR.take 2 rfl (by kernel_rfl) (by kernel_rfl) (by kernel_rfl) (EvP.r (by exact EvP.fa (e := 2) rfl Tryd.runUnderlying91 rfl Tryd.sizeOf88 rfl)) (l' := #[true, true, true, false, false, false, false, false, false, false]) rfl ?_
  refine TR.take 3 rfl (by kernel_rfl) (by kernel_rfl) (by kernel_rfl) (EvR.load rfl Tryd.isAgg88 (AtB.own' (by repeat (first | exact Has.hd | refine Has.tlb ?_ | refine Has.tlc ?_))) (by rfl)) (l' := #[true, true, true, true, false, false, false, false, false, false]) rfl ?_
  refine TR.take 4 rfl (by kernel_rfl) (by kernel_rfl) (by kernel_rfl) (EvP.r (by exact EvP.fa (e := 0) rfl Tryd.runUnderlying78 rfl Tryd.sizeOf2 rfl)) (l' := #[true, true, true, true, true, false, false, false, false, false]) rfl ?_
  refine TR.take 5 rfl (by kernel_rfl) (by kernel_rfl) (by kernel_rfl) (EvR.load rfl Tryd.isAgg2 (AtB.own' (by repeat (first | exact Has.hd | refine Has.tlb ?_ | refine Has.tlc ?_))) (by rfl)) (l' := #[true, true, true, true, true, true, false, false, false, false]) rfl ?_
  refine TR.take 6 rfl (by kernel_rfl) (by kernel_rfl) (by kernel_rfl) (EvP.r (by exact EvP.fa (e := 1) rfl Tryd.runUnderlying78 rfl Tryd.sizeOf2 rfl)) (l' := #[true, true, true, true, true, true, true, false, false, false]) rfl ?_
  refine TR.take 7 rfl (by kernel_rfl) (by kernel_rfl) (by kernel_rfl) (EvR.load rfl Tryd.isAgg2 (AtB.own' (by repeat (first | exact Has.hd | refine Has.tlb ?_ | refine Has.tlc ?_))) (by rfl)) (l' := #[true, true, true, true, true, true, true, true, false, false]) rfl ?_
  refine TR.take 8 rfl (by kernel_rfl) (by kernel_rfl) (by kernel_rfl) (EvP.r (by exact EvP.buildS (is := [0, 1]) (xs := [_, _]) rfl Tryd.runUnderlying93 Tryd.zeroValue93 rfl (.cons Tryd.sizeOf2 (.cons Tryd.sizeOf2 .nil)) rfl rfl rfl)) (l' := #[true, true, true, true, true, true, true, true, true, false]) rfl ?_
  refine TR.one (i := 9) (by kernel_rfl) ?_
  refine TRi.w0 rfl (EvW.delete (k := (b.f, b.t)) kPr Tryd.runUnderlying88 rfl rfl (by repeat (first | exact Upd.hd | apply Upd.tlb | apply Upd.tlc))) (l' := #[true, true, true, true, true, true, true, true, true, true]) rfl ?_
  rintro _ _ ⟨rfl, rfl⟩
  refine ⟨fun w hs => SH.of hs (by repeat (first | exact Le.refl _ | exact Le.nil _ | refine Le.hit ?_ | refine Le.hit1 ?_ | refine Le.hit2 ?_ | refine Le.hit3 ?_ | refine Le.hit4 ?_ | refine Le.hit5 ?_ | refine Le.hit6 ?_ | refine Le.hit7 ?_ | refine Le.hit8 ?_ | refine Le.hit9 ?_ | refine Le.hit10 ?_ | refine Le.skip ?_)), ?_⟩
  refine TR.done (by kernel_rfl) ?_
  refine TX.doneN rfl (Res.none rfl) (fun w hs => Post0.mk hs trivial (by repeat (first | exact Le.refl _ | exact Le.nil _ | refine Le.hit ?_ | refine Le.hit1 ?_ | refine Le.hit2 ?_ | refine Le.hit3 ?_ | refine Le.hit4 ?_ | refine Le.hit5 ?_ | refine Le.hit6 ?_ | refine Le.hit7 ?_ | refine Le.hit8 ?_ | refine Le.hit9 ?_ | refine Le.hit10 ?_ | refine Le.skip ?_)))

theorem out_raw1 {w0 w : World} {R : List Chunk} {g mb ml mr : Nat} {n : Int} {eb : List (Ent Int)} {cb : Nat} {er : List (Ent Int)} {cr : Nat} {b : Bond} {num : Int} (hb : valOf num eb = some b.v) (hr : ¬b.r = 0) (hst : St w0 w ([(g, .cells [.map (some mb), .int .i64 n, .map (some ml), .map (some mr)].toArray 91 (0, 0))] :: [(mb, mapObj kI eb cb)] :: [(mr, mapObj kI er cr)] :: R)) : Calls Tryd.prog 60 #[.pointer (some ⟨g, 0, none⟩), .int .i64 num] w (Post0 w0 ([(g, .cells [.map (some mb), .int .i64 n, .map (some ml), .map (some mr)].toArray 91 (0, 0))] :: [(mb, mapObj kI (delE num eb) cb)] :: [(mr, mapObj kI (delE b.r er) cr)] :: R) fun _ => True) := by
  refine calls_of (args := [_, _]) Tryd.func60 rfl Tryd.ntmps60 hst ?_
  refine TC.seq ?_
  refine TC.region ?_
  refine TL.p (EvP.move rfl) ?_
  refine TL.p (EvP.nilP rfl) ?_
  refine TL.p (EvP.fa (e := 0) rfl Tryd.runUnderlying91 rfl Tryd.sizeOf87 rfl) ?_
  refine TL.r (EvR.load rfl Tryd.isAgg87 (AtB.own (by repeat (first | exact Has.hd | refine Has.tlb ?_ | refine Has.tlc ?_))) (by rfl)) ?_
  refine TL.p (EvP.move rfl) ?_
  refine TL.r (EvR.lookupY kB Tryd.runUnderlying87 Tryd.zeroValue78 hb rfl rfl (AtB.own (by repeat (first | exact Has.hd | refine Has.tlb ?_ | refine Has.tlc ?_)))) ?_
  refine TL.alloc Tryd.zeroValue78 rfl (fun b4 => ?_)
  refine TL.u (EvU.store rfl rfl Tryd.sizeOf78 rfl rfl rfl rfl (by repeat (first | exact Has.hd | refine Has.tlb ?_ | refine Has.tlc ?_)) (by repeat (first | exact SetLs.nil | exact SetL.here | apply SetLs.cons | apply SetL.there)) (by repeat (first | exact Upd.hd | apply Upd.tlb | apply Upd.tlc))) ?_
  refine TL.nil ?_
  refine TX.thenN rfl rfl ?_
  refine TC.seq ?_
  refine TC.region ?_
  refine TL.p (EvP.move rfl) ?_
  refine TL.p (EvP.nilP rfl) ?_
  refine TL.p (EvP.fa (e := 0) rfl Tryd.runUnderlying91 rfl Tryd.sizeOf87 rfl) ?_
  refine TL.r (EvR.load rfl Tryd.isAgg87 (AtB.own (by repeat (first | exact Has.hd | refine Has.tlb ?_ | refine Has.tlc ?_))) (by rfl)) ?_
  refine TL.p (EvP.move rfl) ?_
  refine TL.delete0 kB Tryd.runUnderlying87 rfl rfl (by repeat (first | exact Upd.hd | apply Upd.tlb | apply Upd.tlc)) ?_
  refine TL.nil ?_
  refine TX.thenN rfl rfl ?_
  refine TC.seq ?_
  refine TC.region ?_
  refine TL.p (EvP.fa (e := 2) rfl Tryd.runUnderlying78 rfl Tryd.sizeOf2 rfl) ?_
  refine TL.r (EvR.load rfl Tryd.isAgg2 (AtB.own (by repeat (first | exact Has.hd | refine Has.tlb ?_ | refine Has.tlc ?_))) (by rfl)) ?_
  refine TL.p (EvP.eq rfl rfl) ?_
  rw [decide_eq_false hr]
  refine TL.nil ?_
  refine TX.thenN rfl rfl ?_
  refine TC.cfalse rfl ?_
  refine TC.drawn (listed := #[false, false, false, false, false, false, false]) 7 (SH w0 [[(g, .cells [.map (some mb), .int .i64 n, .map (some ml), .map (some mr)].toArray 91 (0, 0))], [(b4, .cells b.enc.toArray 78 (0, 0))]]) rfl rfl rfl rfl (fun w hs => SH.of hs (by repeat (first | exact Le.refl _ | exact Le.nil _ | refine Le.hit ?_ | refine Le.hit1 ?_ | refine Le.hit2 ?_ | refine Le.hit3 ?_ | refine Le.hit4 ?_ | refine Le.hit5 ?_ | refine Le.hit6 ?_ | refine Le.hit7 ?_ | refine Le.hit8 ?_ | refine Le.hit9 ?_ | refine Le.hit10 ?_ | refine Le.skip ?_))) ?_
  refine TR.take 0 rfl (by kernel_rfl) (by kernel_rfl) (by kernel_rfl) (EvP.r (by exact EvP.move rfl)) (l' := #[true, false, false, false, false, false, false]) rfl ?_
  refine TR.take 1 rfl (by kernel_rfl) (by kernel_rfl) (by kernel_rfl) (EvP.r (by exact EvP.nilP rfl)) (l' := #[true, true, false, false, false, false, false]) rfl ?_
  refine TR.take 2 rfl (by kernel_rfl) (by kernel_rfl) (by kernel_rfl) (EvP.r (by exact EvP.fa (e := 3) rfl Tryd.runUnderlying91 rfl Tryd.sizeOf89 rfl)) (l' := #[true, true, true, false, false, false, false]) rfl ?_
  refine TR.take 3 rfl (by kernel_rfl) (by kernel_rfl) (by kernel_rfl) (EvR.load rfl Tryd.isAgg89 (AtB.own' (by repeat (first | exact Has.hd | refine Has.tlb ?_ | refine Has.tlc ?_))) (by rfl)) (l' := #[true, true, true, true, false, false, false]) rfl ?_
  refine TR.take 4 rfl (by kernel_rfl) (by kernel_rfl) (by kernel_rfl) (EvP.r (by exact EvP.fa (e := 2) rfl Tryd.runUnderlying78 rfl Tryd.sizeOf2 rfl)) (l' := #[true, true, true, true, true, false, false]) rfl ?_
  refine TR.take 5 rfl (by kernel_rfl) (by kernel_rfl) (by kernel_rfl) (EvR.load rfl Tryd.isAgg2 (AtB.own' (by repeat (first | exact Has.hd | refine Has.tlb ?_ | refine Has.tlc ?_))) (by rfl)) (l' := #[true, true, true, true, true, true, false]) rfl ?_
  refine TR.one (i := 6) (by kernel_rfl) ?_
  refine TRi.w0 rfl (EvW.delete (k := b.r) kR Tryd.runUnderlying89 rfl rfl (by repeat (first | exact Upd.hd | apply Upd.tlb | apply Upd.tlc))) (l' := #[true, true, true, true, true, true, true]) rfl ?_
  rintro _ _ ⟨rfl, rfl⟩
  refine ⟨fun w hs => SH.of hs (by repeat (first | exact Le.refl _ | exact Le.nil _ | refine Le.hit ?_ | refine Le.hit1 ?_ | refine Le.hit2 ?_ | refine Le.hit3 ?_ | refine Le.hit4 ?_ | refine Le.hit5 ?_ | refine Le.hit6 ?_ | refine Le.hit7 ?_ | refine Le.hit8 ?_ | refine Le.hit9 ?_ | refine Le.hit10 ?_ | refine Le.skip ?_)), ?_⟩
  refine TR.done (by kernel_rfl) ?_
  refine TX.doneN rfl (Res.none rfl) (fun w hs => Post0.mk hs trivial (by repeat (first | exact Le.refl _ | exact Le.nil _ | refine Le.hit ?_ | refine Le.hit1 ?_ | refine Le.hit2 ?_ | refine Le.hit3 ?_ | refine Le.hit4 ?_ | refine Le.hit5 ?_ | refine Le.hit6 ?_ | refine Le.hit7 ?_ | refine Le.hit8 ?_ | refine Le.hit9 ?_ | refine Le.hit10 ?_ | refine Le.skip ?_)))
end Go.Proofs.YtdbpandamnkpdaaDoor
