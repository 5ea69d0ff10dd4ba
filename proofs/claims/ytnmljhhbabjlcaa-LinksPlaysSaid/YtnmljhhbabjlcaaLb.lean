/-
  Walks of the graph's inner functions: a pid's test, a pair in order, a bond put in, a bond taken out.
-/
import Derived.Test.YtnmljhhbabjlcaaLa
import Derived.Test.YtnmljhhbabjlcaaSo
set_option linter.unusedSimpArgs false
set_option linter.unusedVariables false
namespace Go.Proofs.Ytnmljhhbabjlcaa
open Go Go.RowKit

theorem kB : KL Try.prog 2 kI := KL.int Try.runUnderlying2
theorem kR : KL Try.prog 2 kI := KL.int Try.runUnderlying2
theorem kPr : KL Try.prog 77 kP := KL.pair (τ := 2) Try.underlying77 (by kernel_rfl) ⟨by decide, rfl, rfl⟩ ⟨by decide, rfl, rfl⟩ Try.runUnderlying2 Try.isAgg2

theorem isPid_spec {w0 w : World} {R : List Chunk} (n : Int) (hst : St w0 w R) : Calls Try.prog 32 #[.int .i64 n] w (Post0 w0 R fun v => v = .bool (okPid n)) := by
  refine calls_of (args := [_]) Try.func32 rfl Try.ntmps32 hst ?_
  refine TC.seq ?_
  refine TC.region ?_
  refine TL.p (EvP.assign rfl) ?_
  refine TL.nil ?_
  refine TX.thenN rfl rfl ?_
  refine TC.seq ?_
  refine TC.region ?_
  refine TL.p (EvP.move rfl) ?_
  refine TL.dec (EvP.ge rfl rfl) (fun h4 => ?_) (fun h4 => ?_)
  · refine TL.p (EvP.move rfl) ?_
    refine TL.gY rfl rfl rfl ?_
    refine TL.p (EvP.move rfl) ?_
    refine TL.gY rfl rfl rfl ?_
    refine TL.p (EvP.le rfl rfl) ?_
    refine TL.p (EvP.pickT rfl rfl) ?_
    refine TL.p (EvP.assign rfl) ?_
    refine TL.nil ?_
    refine TX.thenN rfl rfl ?_
    refine TC.ret ?_
    refine TX.done rfl (Res.one rfl rfl) (fun w hs => Post0.mk hs ?_ (by repeat (first | exact Le.refl _ | exact Le.nil _ | refine Le.hit ?_ | refine Le.hit1 ?_ | refine Le.hit2 ?_ | refine Le.hit3 ?_ | refine Le.hit4 ?_ | refine Le.hit5 ?_ | refine Le.hit6 ?_ | refine Le.hit7 ?_ | refine Le.hit8 ?_ | refine Le.hit9 ?_ | refine Le.hit10 ?_ | refine Le.skip ?_)))
    simp [okPid]; omega
  · refine TL.p (EvP.move rfl) ?_
    refine TL.gN rfl rfl rfl ?_
    refine TL.gN rfl rfl rfl ?_
    refine TL.p (EvP.pickF rfl rfl) ?_
    refine TL.p (EvP.assign rfl) ?_
    refine TL.nil ?_
    refine TX.thenN rfl rfl ?_
    refine TC.ret ?_
    refine TX.done rfl (Res.one rfl rfl) (fun w hs => Post0.mk hs ?_ (by repeat (first | exact Le.refl _ | exact Le.nil _ | refine Le.hit ?_ | refine Le.hit1 ?_ | refine Le.hit2 ?_ | refine Le.hit3 ?_ | refine Le.hit4 ?_ | refine Le.hit5 ?_ | refine Le.hit6 ?_ | refine Le.hit7 ?_ | refine Le.hit8 ?_ | refine Le.hit9 ?_ | refine Le.hit10 ?_ | refine Le.skip ?_)))
    simp [okPid]; omega

theorem pairOf_spec {w0 w : World} {R : List Chunk} (a b : Int) (hst : St w0 w R) : Calls Try.prog 45 #[.int .i64 a, .int .i64 b] w (Post0 w0 R fun v => v = kP (min a b, max a b)) := by
  refine calls_of (args := [_, _]) Try.func45 rfl Try.ntmps45 hst ?_
  refine TC.seq ?_
  refine TC.region ?_
  refine TL.alloc Try.zeroValue77 rfl (fun b4 => ?_)
  refine TL.nil ?_
  refine TX.thenN rfl rfl ?_
  refine TC.seq ?_
  refine TC.region ?_
  refine TL.p (EvP.move rfl) ?_
  refine TL.p (EvP.move rfl) ?_
  refine TL.p (EvP.min rfl rfl) ?_
  refine TL.p (EvP.move rfl) ?_
  refine TL.p (EvP.move rfl) ?_
  refine TL.p (EvP.max rfl rfl) ?_
  refine TL.p (EvP.buildS (is := [0, 1]) (xs := [_, _]) rfl Try.runUnderlying77 Try.zeroValue77 rfl (.cons Try.sizeOf2 (.cons Try.sizeOf2 .nil)) rfl rfl rfl) ?_
  refine TL.u (EvU.store rfl rfl Try.sizeOf77 rfl rfl rfl rfl (by repeat (first | exact Has.hd | refine Has.tlb ?_ | refine Has.tlc ?_)) (by repeat (first | exact SetLs.nil | exact SetL.here | apply SetLs.cons | apply SetL.there)) (by repeat (first | exact Upd.hd | apply Upd.tlb | apply Upd.tlc))) ?_
  refine TL.nil ?_
  refine TX.thenN rfl rfl ?_
  refine TC.ret ?_
  refine TX.done rfl (Res.c rfl rfl (run_loadN (vs := [_, _]) Try.isAgg77 Try.sizeOf77 (AtB.own (by repeat (first | exact Has.hd | refine Has.tlb ?_ | refine Has.tlc ?_))) (by exact ⟨rfl, rfl, trivial⟩))) (fun w hs => Post0.mk hs ?_ (by repeat (first | exact Le.refl _ | exact Le.nil _ | refine Le.hit ?_ | refine Le.hit1 ?_ | refine Le.hit2 ?_ | refine Le.hit3 ?_ | refine Le.hit4 ?_ | refine Le.hit5 ?_ | refine Le.hit6 ?_ | refine Le.hit7 ?_ | refine Le.hit8 ?_ | refine Le.hit9 ?_ | refine Le.hit10 ?_ | refine Le.skip ?_)))
  rfl

theorem put_raw {w0 w : World} {R : List Chunk} {g mb ml mr : Nat} {n : Int} {eb : List (Ent Int)} {cb : Nat} (b : Bond) (h0 : 0 ≤ n) (h1 : n < 9223372036854775807) (hn : valOf (n + 1) eb = none) (hst : St w0 w ([(g, .cells [.map (some mb), .int .i64 n, .map (some ml), .map (some mr)].toArray 65 (0, 0))] :: [(mb, mapObj kI eb cb)] :: R)) : Calls Try.prog 33 #[.pointer (some ⟨g, 0, none⟩), b.v] w (Post0 w0 ([(g, .cells [.map (some mb), .int .i64 (n + 1), .map (some ml), .map (some mr)].toArray 65 (0, 0))] :: [(mb, mapObj kI (eb ++ [(n + 1, b.v, cb)]) (cb + 1))] :: R) fun v => v = .int .i64 (n + 1)) := by
  refine calls_of (args := [_, _]) Try.func33 rfl Try.ntmps33 hst ?_
  refine TC.seq ?_
  refine TC.region ?_
  refine TL.box rfl rfl (fun b3 => ?_)
  refine TL.p (EvP.assign rfl) ?_
  refine TL.nil ?_
  refine TX.thenN rfl rfl ?_
  refine TC.seq ?_
  refine TC.region ?_
  refine TL.p (EvP.move rfl) ?_
  refine TL.p (EvP.nilP rfl) ?_
  refine TL.p (EvP.fa (e := 1) rfl Try.runUnderlying65 rfl Try.sizeOf2 rfl) ?_
  refine TL.r (EvR.load rfl Try.isAgg2 (AtB.own (by repeat (first | exact Has.hd | refine Has.tlb ?_ | refine Has.tlc ?_))) (by rfl)) ?_
  refine TL.p (EvP.add rfl rfl (by omega)) ?_
  refine TL.p (EvP.nilP rfl) ?_
  refine TL.p (EvP.fa (e := 1) rfl Try.runUnderlying65 rfl Try.sizeOf2 rfl) ?_
  refine TL.u (EvU.store rfl rfl Try.sizeOf2 rfl rfl rfl rfl (by repeat (first | exact Has.hd | refine Has.tlb ?_ | refine Has.tlc ?_)) (by repeat (first | exact SetLs.nil | exact SetL.here | apply SetLs.cons | apply SetL.there)) (by repeat (first | exact Upd.hd | apply Upd.tlb | apply Upd.tlc))) ?_
  refine TL.nil ?_
  refine TX.thenN rfl rfl ?_
  refine TC.seq ?_
  refine TC.drawn (listed := #[false, false, false, false, false, false, false, false, false, false]) 10 (SH w0 [[(g, .cells [.map (some mb), .int .i64 (n + 1), .map (some ml), .map (some mr)].toArray 65 (0, 0))], [(b3, .cells b.enc.toArray 48 (0, 0))]]) rfl rfl rfl rfl (fun w hs => SH.of hs (by repeat (first | exact Le.refl _ | exact Le.nil _ | refine Le.hit ?_ | refine Le.hit1 ?_ | refine Le.hit2 ?_ | refine Le.hit3 ?_ | refine Le.hit4 ?_ | refine Le.hit5 ?_ | refine Le.hit6 ?_ | refine Le.hit7 ?_ | refine Le.hit8 ?_ | refine Le.hit9 ?_ | refine Le.hit10 ?_ | refine Le.skip ?_))) ?_
  refine TR.take 0 rfl (by kernel_rfl) (by kernel_rfl) (by kernel_rfl) (EvP.r (by exact EvP.move rfl)) (l' := #[true, false, false, false, false, false, false, false, false, false]) rfl ?_
  refine TR.take 1 rfl (by kernel_rfl) (by kernel_rfl) (by kernel_rfl) (EvP.r (by exact EvP.nilP rfl)) (l' := #[true, true, false, false, false, false, false, false, false, false]) rfl ?_
  refine TR.take 2 rfl (by kernel_rfl) (by kernel_rfl) (by kernel_rfl) (EvP.r (by exact EvP.fa (e := 0) rfl Try.runUnderlying65 rfl Try.sizeOf61 rfl)) (l' := #[true, true, true, false, false, false, false, false, false, false]) rfl ?_
  refine TR.take 3 rfl (by kernel_rfl) (by kernel_rfl) (by kernel_rfl) (EvR.load rfl Try.isAgg61 (AtB.own' (by repeat (first | exact Has.hd | refine Has.tlb ?_ | refine Has.tlc ?_))) (by rfl)) (l' := #[true, true, true, true, false, false, false, false, false, false]) rfl ?_
  refine TR.take 4 rfl (by kernel_rfl) (by kernel_rfl) (by kernel_rfl) (EvP.r (by exact EvP.move rfl)) (l' := #[true, true, true, true, true, false, false, false, false, false]) rfl ?_
  refine TR.take 5 rfl (by kernel_rfl) (by kernel_rfl) (by kernel_rfl) (EvP.r (by exact EvP.nilP rfl)) (l' := #[true, true, true, true, true, true, false, false, false, false]) rfl ?_
  refine TR.take 6 rfl (by kernel_rfl) (by kernel_rfl) (by kernel_rfl) (EvP.r (by exact EvP.fa (e := 1) rfl Try.runUnderlying65 rfl Try.sizeOf2 rfl)) (l' := #[true, true, true, true, true, true, true, false, false, false]) rfl ?_
  refine TR.take 7 rfl (by kernel_rfl) (by kernel_rfl) (by kernel_rfl) (EvR.load rfl Try.isAgg2 (AtB.own' (by repeat (first | exact Has.hd | refine Has.tlb ?_ | refine Has.tlc ?_))) (by rfl)) (l' := #[true, true, true, true, true, true, true, true, false, false]) rfl ?_
  refine TR.take 8 rfl (by kernel_rfl) (by kernel_rfl) (by kernel_rfl) (EvR.loadN (vs := [_, _, _]) rfl Try.isAgg48 Try.sizeOf48 (AtB.own' (by repeat (first | exact Has.hd | refine Has.tlb ?_ | refine Has.tlc ?_))) (by exact ⟨rfl, rfl, rfl,  trivial⟩)) (l' := #[true, true, true, true, true, true, true, true, true, false]) rfl ?_
  refine TR.one (i := 9) (by kernel_rfl) ?_
  refine TRi.u rfl (EvU.putNew kB Try.runUnderlying61 rfl rfl rfl hn (by repeat (first | exact Upd.hd | apply Upd.tlb | apply Upd.tlc))) (fun w hs => SH.of hs (by repeat (first | exact Le.refl _ | exact Le.nil _ | refine Le.hit ?_ | refine Le.hit1 ?_ | refine Le.hit2 ?_ | refine Le.hit3 ?_ | refine Le.hit4 ?_ | refine Le.hit5 ?_ | refine Le.hit6 ?_ | refine Le.hit7 ?_ | refine Le.hit8 ?_ | refine Le.hit9 ?_ | refine Le.hit10 ?_ | refine Le.skip ?_))) (l' := #[true, true, true, true, true, true, true, true, true, true]) rfl ?_
  refine TR.done (by kernel_rfl) ?_
  refine TX.thenN rfl rfl ?_
  refine TC.seq ?_
  refine TC.region ?_
  refine TL.p (EvP.move rfl) ?_
  refine TL.p (EvP.nilP rfl) ?_
  refine TL.p (EvP.fa (e := 1) rfl Try.runUnderlying65 rfl Try.sizeOf2 rfl) ?_
  refine TL.r (EvR.load rfl Try.isAgg2 (AtB.own (by repeat (first | exact Has.hd | refine Has.tlb ?_ | refine Has.tlc ?_))) (by rfl)) ?_
  refine TL.p (EvP.assign rfl) ?_
  refine TL.nil ?_
  refine TX.thenN rfl rfl ?_
  refine TC.ret ?_
  refine TX.done rfl (Res.one rfl rfl) (fun w hs => Post0.mk hs ?_ (by repeat (first | exact Le.refl _ | exact Le.nil _ | refine Le.hit ?_ | refine Le.hit1 ?_ | refine Le.hit2 ?_ | refine Le.hit3 ?_ | refine Le.hit4 ?_ | refine Le.hit5 ?_ | refine Le.hit6 ?_ | refine Le.hit7 ?_ | refine Le.hit8 ?_ | refine Le.hit9 ?_ | refine Le.hit10 ?_ | refine Le.skip ?_)))
  rfl

theorem out_raw0 {w0 w : World} {R : List Chunk} {g mb ml mr : Nat} {n : Int} {eb : List (Ent Int)} {cb : Nat} {el : List (Ent (Int × Int))} {cl : Nat} {b : Bond} {num : Int} (hb : valOf num eb = some b.v) (hr : b.r = 0) (hst : St w0 w ([(g, .cells [.map (some mb), .int .i64 n, .map (some ml), .map (some mr)].toArray 65 (0, 0))] :: [(mb, mapObj kI eb cb)] :: [(ml, mapObj kP el cl)] :: R)) : Calls Try.prog 42 #[.pointer (some ⟨g, 0, none⟩), .int .i64 num] w (Post0 w0 ([(g, .cells [.map (some mb), .int .i64 n, .map (some ml), .map (some mr)].toArray 65 (0, 0))] :: [(mb, mapObj kI (delE num eb) cb)] :: [(ml, mapObj kP (delE (b.f, b.t) el) cl)] :: R) fun _ => True) := by
  refine calls_of (args := [_, _]) Try.func42 rfl Try.ntmps42 hst ?_
  refine TC.seq ?_
  refine TC.region ?_
  refine TL.p (EvP.move rfl) ?_
  refine TL.p (EvP.nilP rfl) ?_
  refine TL.p (EvP.fa (e := 0) rfl Try.runUnderlying65 rfl Try.sizeOf61 rfl) ?_
  refine TL.r (EvR.load rfl Try.isAgg61 (AtB.own (by repeat (first | exact Has.hd | refine Has.tlb ?_ | refine Has.tlc ?_))) (by rfl)) ?_
  refine TL.p (EvP.move rfl) ?_
  refine TL.r (EvR.lookupY kB Try.runUnderlying61 Try.zeroValue48 hb rfl rfl (AtB.own (by repeat (first | exact Has.hd | refine Has.tlb ?_ | refine Has.tlc ?_)))) ?_
  refine TL.alloc Try.zeroValue48 rfl (fun b4 => ?_)
  refine TL.u (EvU.store rfl rfl Try.sizeOf48 rfl rfl rfl rfl (by repeat (first | exact Has.hd | refine Has.tlb ?_ | refine Has.tlc ?_)) (by repeat (first | exact SetLs.nil | exact SetL.here | apply SetLs.cons | apply SetL.there)) (by repeat (first | exact Upd.hd | apply Upd.tlb | apply Upd.tlc))) ?_
  refine TL.nil ?_
  refine TX.thenN rfl rfl ?_
  refine TC.seq ?_
  refine TC.region ?_
  refine TL.p (EvP.move rfl) ?_
  refine TL.p (EvP.nilP rfl) ?_
  refine TL.p (EvP.fa (e := 0) rfl Try.runUnderlying65 rfl Try.sizeOf61 rfl) ?_
  refine TL.r (EvR.load rfl Try.isAgg61 (AtB.own (by repeat (first | exact Has.hd | refine Has.tlb ?_ | refine Has.tlc ?_))) (by rfl)) ?_
  refine TL.p (EvP.move rfl) ?_
  refine TL.delete0 kB Try.runUnderlying61 rfl rfl (by repeat (first | exact Upd.hd | apply Upd.tlb | apply Upd.tlc)) ?_
  refine TL.nil ?_
  refine TX.thenN rfl rfl ?_
  refine TC.seq ?_
  refine TC.region ?_
  refine TL.p (EvP.fa (e := 2) rfl Try.runUnderlying48 rfl Try.sizeOf2 rfl) ?_
  refine TL.r (EvR.load rfl Try.isAgg2 (AtB.own (by repeat (first | exact Has.hd | refine Has.tlb ?_ | refine Has.tlc ?_))) (by rfl)) ?_
  refine TL.p (EvP.eq rfl rfl) ?_
  rw [decide_eq_true hr]
  refine TL.nil ?_
  refine TX.thenN rfl rfl ?_
  refine TC.ctrue rfl ?_
  refine TC.drawn (listed := #[false, false, false, false, false, false, false, false, false, false]) 10 (SH w0 [[(g, .cells [.map (some mb), .int .i64 n, .map (some ml), .map (some mr)].toArray 65 (0, 0))], [(b4, .cells b.enc.toArray 48 (0, 0))]]) rfl rfl rfl rfl (fun w hs => SH.of hs (by repeat (first | exact Le.refl _ | exact Le.nil _ | refine Le.hit ?_ | refine Le.hit1 ?_ | refine Le.hit2 ?_ | refine Le.hit3 ?_ | refine Le.hit4 ?_ | refine Le.hit5 ?_ | refine Le.hit6 ?_ | refine Le.hit7 ?_ | refine Le.hit8 ?_ | refine Le.hit9 ?_ | refine Le.hit10 ?_ | refine Le.skip ?_))) ?_
  refine TR.take 0 rfl (by kernel_rfl) (by kernel_rfl) (by kernel_rfl) (EvP.r (by exact EvP.move rfl)) (l' := #[true, false, false, false, false, false, false, false, false, false]) rfl ?_
  refine TR.take 1 rfl (by kernel_rfl) (by kernel_rfl) (by kernel_rfl) (EvP.r (by exact EvP.nilP rfl)) (l' := #[true, true, false, false, false, false, false, false, false, false]) rfl ?_
  refine TR.take 2 rfl (by kernel_rfl) (by kernel_rfl) (by kernel_rfl) (EvP.r (by exact EvP.fa (e := 2) rfl Try.runUnderlying65 rfl Try.sizeOf62 rfl)) (l' := #[true, true, true, false, false, false, false, false, false, false]) rfl ?_
  refine TR.take 3 rfl (by kernel_rfl) (by kernel_rfl) (by kernel_rfl) (EvR.load rfl Try.isAgg62 (AtB.own' (by repeat (first | exact Has.hd | refine Has.tlb ?_ | refine Has.tlc ?_))) (by rfl)) (l' := #[true, true, true, true, false, false, false, false, false, false]) rfl ?_
  refine TR.take 4 rfl (by kernel_rfl) (by kernel_rfl) (by kernel_rfl) (EvP.r (by exact EvP.fa (e := 0) rfl Try.runUnderlying48 rfl Try.sizeOf2 rfl)) (l' := #[true, true, true, true, true, false, false, false, false, false]) rfl ?_
  refine TR.take 5 rfl (by kernel_rfl) (by kernel_rfl) (by kernel_rfl) (EvR.load rfl Try.isAgg2 (AtB.own' (by repeat (first | exact Has.hd | refine Has.tlb ?_ | refine Has.tlc ?_))) (by rfl)) (l' := #[true, true, true, true, true, true, false, false, false, false]) rfl ?_
  refine TR.take 6 rfl (by kernel_rfl) (by kernel_rfl) (by kernel_rfl) (EvP.r (by exact EvP.fa (e := 1) rfl Try.runUnderlying48 rfl Try.sizeOf2 rfl)) (l' := #[true, true, true, true, true, true, true, false, false, false]) rfl ?_
  refine TR.take 7 rfl (by kernel_rfl) (by kernel_rfl) (by kernel_rfl) (EvR.load rfl Try.isAgg2 (AtB.own' (by repeat (first | exact Has.hd | refine Has.tlb ?_ | refine Has.tlc ?_))) (by rfl)) (l' := #[true, true, true, true, true, true, true, true, false, false]) rfl ?_
  refine TR.take 8 rfl (by kernel_rfl) (by kernel_rfl) (by kernel_rfl) (EvP.r (by exact EvP.buildS (is := [0, 1]) (xs := [_, _]) rfl Try.runUnderlying77 Try.zeroValue77 rfl (.cons Try.sizeOf2 (.cons Try.sizeOf2 .nil)) rfl rfl rfl)) (l' := #[true, true, true, true, true, true, true, true, true, false]) rfl ?_
  refine TR.one (i := 9) (by kernel_rfl) ?_
  refine TRi.w0 rfl (EvW.delete (k := (b.f, b.t)) kPr Try.runUnderlying62 rfl rfl (by repeat (first | exact Upd.hd | apply Upd.tlb | apply Upd.tlc))) (l' := #[true, true, true, true, true, true, true, true, true, true]) rfl ?_
  rintro _ _ ⟨rfl, rfl⟩
  refine ⟨fun w hs => SH.of hs (by repeat (first | exact Le.refl _ | exact Le.nil _ | refine Le.hit ?_ | refine Le.hit1 ?_ | refine Le.hit2 ?_ | refine Le.hit3 ?_ | refine Le.hit4 ?_ | refine Le.hit5 ?_ | refine Le.hit6 ?_ | refine Le.hit7 ?_ | refine Le.hit8 ?_ | refine Le.hit9 ?_ | refine Le.hit10 ?_ | refine Le.skip ?_)), ?_⟩
  refine TR.done (by kernel_rfl) ?_
  refine TX.doneN rfl (Res.none rfl) (fun w hs => Post0.mk hs trivial (by repeat (first | exact Le.refl _ | exact Le.nil _ | refine Le.hit ?_ | refine Le.hit1 ?_ | refine Le.hit2 ?_ | refine Le.hit3 ?_ | refine Le.hit4 ?_ | refine Le.hit5 ?_ | refine Le.hit6 ?_ | refine Le.hit7 ?_ | refine Le.hit8 ?_ | refine Le.hit9 ?_ | refine Le.hit10 ?_ | refine Le.skip ?_)))

theorem out_raw1 {w0 w : World} {R : List Chunk} {g mb ml mr : Nat} {n : Int} {eb : List (Ent Int)} {cb : Nat} {er : List (Ent Int)} {cr : Nat} {b : Bond} {num : Int} (hb : valOf num eb = some b.v) (hr : ¬b.r = 0) (hst : St w0 w ([(g, .cells [.map (some mb), .int .i64 n, .map (some ml), .map (some mr)].toArray 65 (0, 0))] :: [(mb, mapObj kI eb cb)] :: [(mr, mapObj kI er cr)] :: R)) : Calls Try.prog 42 #[.pointer (some ⟨g, 0, none⟩), .int .i64 num] w (Post0 w0 ([(g, .cells [.map (some mb), .int .i64 n, .map (some ml), .map (some mr)].toArray 65 (0, 0))] :: [(mb, mapObj kI (delE num eb) cb)] :: [(mr, mapObj kI (delE b.r er) cr)] :: R) fun _ => True) := by
  refine calls_of (args := [_, _]) Try.func42 rfl Try.ntmps42 hst ?_
  refine TC.seq ?_
  refine TC.region ?_
  refine TL.p (EvP.move rfl) ?_
  refine TL.p (EvP.nilP rfl) ?_
  refine TL.p (EvP.fa (e := 0) rfl Try.runUnderlying65 rfl Try.sizeOf61 rfl) ?_
  refine TL.r (EvR.load rfl Try.isAgg61 (AtB.own (by repeat (first | exact Has.hd | refine Has.tlb ?_ | refine Has.tlc ?_))) (by rfl)) ?_
  refine TL.p (EvP.move rfl) ?_
  refine TL.r (EvR.lookupY kB Try.runUnderlying61 Try.zeroValue48 hb rfl rfl (AtB.own (by repeat (first | exact Has.hd | refine Has.tlb ?_ | refine Has.tlc ?_)))) ?_
  refine TL.alloc Try.zeroValue48 rfl (fun b4 => ?_)
  refine TL.u (EvU.store rfl rfl Try.sizeOf48 rfl rfl rfl rfl (by repeat (first | exact Has.hd | refine Has.tlb ?_ | refine Has.tlc ?_)) (by repeat (first | exact SetLs.nil | exact SetL.here | apply SetLs.cons | apply SetL.there)) (by repeat (first | exact Upd.hd | apply Upd.tlb | apply Upd.tlc))) ?_
  refine TL.nil ?_
  refine TX.thenN rfl rfl ?_
  refine TC.seq ?_
  refine TC.region ?_
  refine TL.p (EvP.move rfl) ?_
  refine TL.p (EvP.nilP rfl) ?_
  refine TL.p (EvP.fa (e := 0) rfl Try.runUnderlying65 rfl Try.sizeOf61 rfl) ?_
  refine TL.r (EvR.load rfl Try.isAgg61 (AtB.own (by repeat (first | exact Has.hd | refine Has.tlb ?_ | refine Has.tlc ?_))) (by rfl)) ?_
  refine TL.p (EvP.move rfl) ?_
  refine TL.delete0 kB Try.runUnderlying61 rfl rfl (by repeat (first | exact Upd.hd | apply Upd.tlb | apply Upd.tlc)) ?_
  refine TL.nil ?_
  refine TX.thenN rfl rfl ?_
  refine TC.seq ?_
  refine TC.region ?_
  refine TL.p (EvP.fa (e := 2) rfl Try.runUnderlying48 rfl Try.sizeOf2 rfl) ?_
  refine TL.r (EvR.load rfl Try.isAgg2 (AtB.own (by repeat (first | exact Has.hd | refine Has.tlb ?_ | refine Has.tlc ?_))) (by rfl)) ?_
  refine TL.p (EvP.eq rfl rfl) ?_
  rw [decide_eq_false hr]
  refine TL.nil ?_
  refine TX.thenN rfl rfl ?_
  refine TC.cfalse rfl ?_
  refine TC.drawn (listed := #[false, false, false, false, false, false, false]) 7 (SH w0 [[(g, .cells [.map (some mb), .int .i64 n, .map (some ml), .map (some mr)].toArray 65 (0, 0))], [(b4, .cells b.enc.toArray 48 (0, 0))]]) rfl rfl rfl rfl (fun w hs => SH.of hs (by repeat (first | exact Le.refl _ | exact Le.nil _ | refine Le.hit ?_ | refine Le.hit1 ?_ | refine Le.hit2 ?_ | refine Le.hit3 ?_ | refine Le.hit4 ?_ | refine Le.hit5 ?_ | refine Le.hit6 ?_ | refine Le.hit7 ?_ | refine Le.hit8 ?_ | refine Le.hit9 ?_ | refine Le.hit10 ?_ | refine Le.skip ?_))) ?_
  refine TR.take 0 rfl (by kernel_rfl) (by kernel_rfl) (by kernel_rfl) (EvP.r (by exact EvP.move rfl)) (l' := #[true, false, false, false, false, false, false]) rfl ?_
  refine TR.take 1 rfl (by kernel_rfl) (by kernel_rfl) (by kernel_rfl) (EvP.r (by exact EvP.nilP rfl)) (l' := #[true, true, false, false, false, false, false]) rfl ?_
  refine TR.take 2 rfl (by kernel_rfl) (by kernel_rfl) (by kernel_rfl) (EvP.r (by exact EvP.fa (e := 3) rfl Try.runUnderlying65 rfl Try.sizeOf63 rfl)) (l' := #[true, true, true, false, false, false, false]) rfl ?_
  refine TR.take 3 rfl (by kernel_rfl) (by kernel_rfl) (by kernel_rfl) (EvR.load rfl Try.isAgg63 (AtB.own' (by repeat (first | exact Has.hd | refine Has.tlb ?_ | refine Has.tlc ?_))) (by rfl)) (l' := #[true, true, true, true, false, false, false]) rfl ?_
  refine TR.take 4 rfl (by kernel_rfl) (by kernel_rfl) (by kernel_rfl) (EvP.r (by exact EvP.fa (e := 2) rfl Try.runUnderlying48 rfl Try.sizeOf2 rfl)) (l' := #[true, true, true, true, true, false, false]) rfl ?_
  refine TR.take 5 rfl (by kernel_rfl) (by kernel_rfl) (by kernel_rfl) (EvR.load rfl Try.isAgg2 (AtB.own' (by repeat (first | exact Has.hd | refine Has.tlb ?_ | refine Has.tlc ?_))) (by rfl)) (l' := #[true, true, true, true, true, true, false]) rfl ?_
  refine TR.one (i := 6) (by kernel_rfl) ?_
  refine TRi.w0 rfl (EvW.delete (k := b.r) kR Try.runUnderlying63 rfl rfl (by repeat (first | exact Upd.hd | apply Upd.tlb | apply Upd.tlc))) (l' := #[true, true, true, true, true, true, true]) rfl ?_
  rintro _ _ ⟨rfl, rfl⟩
  refine ⟨fun w hs => SH.of hs (by repeat (first | exact Le.refl _ | exact Le.nil _ | refine Le.hit ?_ | refine Le.hit1 ?_ | refine Le.hit2 ?_ | refine Le.hit3 ?_ | refine Le.hit4 ?_ | refine Le.hit5 ?_ | refine Le.hit6 ?_ | refine Le.hit7 ?_ | refine Le.hit8 ?_ | refine Le.hit9 ?_ | refine Le.hit10 ?_ | refine Le.skip ?_)), ?_⟩
  refine TR.done (by kernel_rfl) ?_
  refine TX.doneN rfl (Res.none rfl) (fun w hs => Post0.mk hs trivial (by repeat (first | exact Le.refl _ | exact Le.nil _ | refine Le.hit ?_ | refine Le.hit1 ?_ | refine Le.hit2 ?_ | refine Le.hit3 ?_ | refine Le.hit4 ?_ | refine Le.hit5 ?_ | refine Le.hit6 ?_ | refine Le.hit7 ?_ | refine Le.hit8 ?_ | refine Le.hit9 ?_ | refine Le.hit10 ?_ | refine Le.skip ?_)))
end Go.Proofs.Ytnmljhhbabjlcaa
