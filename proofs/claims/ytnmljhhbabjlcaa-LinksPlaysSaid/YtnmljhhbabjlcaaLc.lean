/-
  Walks of the graph's methods, over its three maps: find, leave, length, linked, link.
-/
import Derived.Test.YtnmljhhbabjlcaaLb
set_option linter.unusedSimpArgs false
set_option linter.unusedVariables false
namespace Go.Proofs.Ytnmljhhbabjlcaa
open Go Go.RowKit

/-- The graph's own cells, whatever its last number is; and some blocks. -/
def SG (w0 : World) (g mb ml mr : Nat) (Hs : List Chunk) (w : World) : Prop :=
  (∃ n : Int, w.heap[g]? = some (.cells [.map (some mb), .int .i64 n, .map (some ml), .map (some mr)].toArray 65 (0, 0))) ∧ SH w0 Hs w
theorem SG.of {w0 w : World} {g mb ml mr : Nat} {n : Int} {H Hs : List Chunk} (h : St w0 w H) (hg : Has H g (.cells [.map (some mb), .int .i64 n, .map (some ml), .map (some mr)].toArray 65 (0, 0))) (hl : Le Hs H) : SG w0 g mb ml mr Hs w := ⟨⟨n, h.has hg⟩, SH.of h hl⟩
theorem SG.c0 {w0 : World} {g mb ml mr : Nat} {Hs : List Chunk} : AtC (SG w0 g mb ml mr Hs) g 0 (.map (some mb)) := fun w ⟨⟨n, h⟩, _⟩ => ⟨_, _, _, h, rfl⟩
theorem SG.c2 {w0 : World} {g mb ml mr : Nat} {Hs : List Chunk} : AtC (SG w0 g mb ml mr Hs) g 2 (.map (some ml)) := fun w ⟨⟨n, h⟩, _⟩ => ⟨_, _, _, h, rfl⟩
theorem SG.c3 {w0 : World} {g mb ml mr : Nat} {Hs : List Chunk} : AtC (SG w0 g mb ml mr Hs) g 3 (.map (some mr)) := fun w ⟨⟨n, h⟩, _⟩ => ⟨_, _, _, h, rfl⟩
theorem AtB.ownG {w0 : World} {g mb ml mr b : Nat} {Hs : List Chunk} {o : Obj} (h : Has Hs b o) : AtB (SG w0 g mb ml mr Hs) b o := fun _ hs => hs.2.2 _ h.mem

theorem two_spec {w0 w : World} {R : List Chunk} {g : Nat} (a b : Int) (hst : St w0 w R) : Calls Try.prog 49 #[.pointer (some ⟨g, 0, none⟩), .int .i64 a, .int .i64 b] w (Post0 w0 R fun v => v = .int .i64 (if okTwo a b = true then 0 else 1)) := by
  refine calls_of (args := [_, _, _]) Try.func49 rfl Try.ntmps49 hst ?_
  refine TC.seq ?_
  refine TC.region ?_
  refine TL.p (EvP.assign rfl) ?_
  refine TL.nil ?_
  refine TX.thenN rfl rfl ?_
  refine TC.seq ?_
  refine TC.block ?_
  refine TC.seq ?_
  refine TC.region ?_
  refine TL.p (EvP.move rfl) ?_
  refine TL.p (EvP.eqPtrNil Try.runUnderlying24 rfl rfl) ?_
  refine TL.p (EvP.assign rfl) ?_
  refine TL.nil ?_
  refine TX.thenN rfl rfl ?_
  refine TC.cfalse rfl ?_
  refine TC.seq ?_
  refine TC.region ?_
  refine TL.p (EvP.move rfl) ?_
  refine TL.callA rfl rfl Try.call32 (fun w hs => isPid_spec _ hs) ?_
  rintro _ rfl
  refine TL.p (EvP.not rfl) ?_
  refine TL.p (EvP.move rfl) ?_
  refine TL.bsplit 14 rfl (fun h14 => ?_) (fun h14 => ?_)
  · refine TL.gN rfl rfl rfl ?_
    refine TL.gN rfl rfl rfl ?_
    refine TL.gN rfl rfl rfl ?_
    refine TL.p (EvP.pickT rfl rfl) ?_
    refine TL.p (EvP.move rfl) ?_
    refine TL.gN rfl rfl rfl ?_
    refine TL.gN rfl rfl rfl ?_
    refine TL.gN rfl rfl rfl ?_
    refine TL.p (EvP.pickT rfl rfl) ?_
    refine TL.p (EvP.assign rfl) ?_
    refine TL.nil ?_
    refine TX.thenN rfl rfl ?_
    refine TC.ctrue rfl ?_
    refine TC.seq ?_
    refine TC.region ?_
    refine TL.p (EvP.assign rfl) ?_
    refine TL.nil ?_
    refine TX.thenN rfl rfl ?_
    refine TC.ret ?_
    refine TX.blkR ?_
    refine TX.thenR ?_
    refine TX.done rfl (Res.one rfl rfl) (fun w hs => Post0.mk hs ?_ (by repeat (first | exact Le.refl _ | exact Le.nil _ | refine Le.hit ?_ | refine Le.hit1 ?_ | refine Le.hit2 ?_ | refine Le.hit3 ?_ | refine Le.hit4 ?_ | refine Le.hit5 ?_ | refine Le.hit6 ?_ | refine Le.hit7 ?_ | refine Le.hit8 ?_ | refine Le.hit9 ?_ | refine Le.hit10 ?_ | refine Le.skip ?_)))
    simp_all [okTwo]
  · refine TL.gY rfl rfl rfl ?_
    refine TL.p (EvP.move rfl) ?_
    refine TL.gY rfl rfl rfl ?_
    refine TL.callA rfl rfl Try.call32 (fun w hs => isPid_spec _ hs) ?_
    rintro _ rfl
    refine TL.gY rfl rfl rfl ?_
    refine TL.p (EvP.not rfl) ?_
    refine TL.p (EvP.pickF rfl rfl) ?_
    refine TL.p (EvP.move rfl) ?_
    refine TL.bsplit 19 rfl (fun h19 => ?_) (fun h19 => ?_)
    · refine TL.gN rfl rfl rfl ?_
      refine TL.gN rfl rfl rfl ?_
      refine TL.gN rfl rfl rfl ?_
      refine TL.p (EvP.pickT rfl rfl) ?_
      refine TL.p (EvP.assign rfl) ?_
      refine TL.nil ?_
      refine TX.thenN rfl rfl ?_
      refine TC.ctrue rfl ?_
      refine TC.seq ?_
      refine TC.region ?_
      refine TL.p (EvP.assign rfl) ?_
      refine TL.nil ?_
      refine TX.thenN rfl rfl ?_
      refine TC.ret ?_
      refine TX.blkR ?_
      refine TX.thenR ?_
      refine TX.done rfl (Res.one rfl rfl) (fun w hs => Post0.mk hs ?_ (by repeat (first | exact Le.refl _ | exact Le.nil _ | refine Le.hit ?_ | refine Le.hit1 ?_ | refine Le.hit2 ?_ | refine Le.hit3 ?_ | refine Le.hit4 ?_ | refine Le.hit5 ?_ | refine Le.hit6 ?_ | refine Le.hit7 ?_ | refine Le.hit8 ?_ | refine Le.hit9 ?_ | refine Le.hit10 ?_ | refine Le.skip ?_)))
      simp_all [okTwo]
    · refine TL.gY rfl rfl rfl ?_
      refine TL.p (EvP.move rfl) ?_
      refine TL.gY rfl rfl rfl ?_
      refine TL.p (EvP.move rfl) ?_
      refine TL.gY rfl rfl rfl ?_
      refine TL.dec (EvP.eq rfl rfl) (fun h22 => ?_) (fun h22 => ?_)
      · refine TL.p (EvP.pickF rfl rfl) ?_
        refine TL.p (EvP.assign rfl) ?_
        refine TL.nil ?_
        refine TX.thenN rfl rfl ?_
        refine TC.ctrue rfl ?_
        refine TC.seq ?_
        refine TC.region ?_
        refine TL.p (EvP.assign rfl) ?_
        refine TL.nil ?_
        refine TX.thenN rfl rfl ?_
        refine TC.ret ?_
        refine TX.blkR ?_
        refine TX.thenR ?_
        refine TX.done rfl (Res.one rfl rfl) (fun w hs => Post0.mk hs ?_ (by repeat (first | exact Le.refl _ | exact Le.nil _ | refine Le.hit ?_ | refine Le.hit1 ?_ | refine Le.hit2 ?_ | refine Le.hit3 ?_ | refine Le.hit4 ?_ | refine Le.hit5 ?_ | refine Le.hit6 ?_ | refine Le.hit7 ?_ | refine Le.hit8 ?_ | refine Le.hit9 ?_ | refine Le.hit10 ?_ | refine Le.skip ?_)))
        simp_all [okTwo]
      · refine TL.p (EvP.pickF rfl rfl) ?_
        refine TL.p (EvP.assign rfl) ?_
        refine TL.nil ?_
        refine TX.thenN rfl rfl ?_
        refine TC.cfalse rfl ?_
        refine TC.skip ?_
        refine TX.blkN ?_
        refine TX.thenN rfl rfl ?_
        refine TC.seq ?_
        refine TC.region ?_
        refine TL.p (EvP.assign rfl) ?_
        refine TL.nil ?_
        refine TX.thenN rfl rfl ?_
        refine TC.ret ?_
        refine TX.done rfl (Res.one rfl rfl) (fun w hs => Post0.mk hs ?_ (by repeat (first | exact Le.refl _ | exact Le.nil _ | refine Le.hit ?_ | refine Le.hit1 ?_ | refine Le.hit2 ?_ | refine Le.hit3 ?_ | refine Le.hit4 ?_ | refine Le.hit5 ?_ | refine Le.hit6 ?_ | refine Le.hit7 ?_ | refine Le.hit8 ?_ | refine Le.hit9 ?_ | refine Le.hit10 ?_ | refine Le.skip ?_)))
        simp_all [okTwo]

theorem two_ok {w0 w : World} {R : List Chunk} {g : Nat} {a b : Int} (h : okTwo a b = true) (hst : St w0 w R) : Calls Try.prog 49 #[.pointer (some ⟨g, 0, none⟩), .int .i64 a, .int .i64 b] w (Post0 w0 R fun v => v = .int .i64 0) := by
  have := two_spec (g := g) a b hst
  rwa [if_pos h] at this
theorem two_bad {w0 w : World} {R : List Chunk} {g : Nat} {a b : Int} (h : okTwo a b = false) (hst : St w0 w R) : Calls Try.prog 49 #[.pointer (some ⟨g, 0, none⟩), .int .i64 a, .int .i64 b] w (Post0 w0 R fun v => v = .int .i64 1) := by
  have := two_spec (g := g) a b hst
  rwa [if_neg (by simp [h])] at this

theorem find_no {w0 w : World} {R : List Chunk} {g mb ml mr : Nat} {n : Int} {eb : List (Ent Int)} {cb : Nat} {el : List (Ent (Int × Int))} {cl : Nat} {er : List (Ent Int)} {cr : Nat} {r : Int} (hv : valOf r er = none) (hst : St w0 w ([(g, .cells [.map (some mb), .int .i64 n, .map (some ml), .map (some mr)].toArray 65 (0, 0))] :: [(mb, mapObj kI eb cb)] :: [(ml, mapObj kP el cl)] :: [(mr, mapObj kI er cr)] :: R)) : Calls Try.prog 29 #[.pointer (some ⟨g, 0, none⟩), .int .i64 r] w (Post0 w0 ([(g, .cells [.map (some mb), .int .i64 n, .map (some ml), .map (some mr)].toArray 65 (0, 0))] :: [(mb, mapObj kI eb cb)] :: [(ml, mapObj kP el cl)] :: [(mr, mapObj kI er cr)] :: R) fun u => u = .tuple #[Bond.zero.v, .int .i64 5]) := by
  refine calls_of (args := [_, _]) Try.func29 rfl Try.ntmps29 hst ?_
  refine TC.seq ?_
  refine TC.region ?_
  refine TL.alloc Try.zeroValue48 rfl (fun b4 => ?_)
  refine TL.p (EvP.assign rfl) ?_
  refine TL.nil ?_
  refine TX.thenN rfl rfl ?_
  refine TC.seq ?_
  refine TC.block ?_
  refine TC.seq ?_
  refine TC.region ?_
  refine TL.p (EvP.move rfl) ?_
  refine TL.p (EvP.eqPtrNil Try.runUnderlying24 rfl rfl) ?_
  refine TL.p (EvP.assign rfl) ?_
  refine TL.nil ?_
  refine TX.thenN rfl rfl ?_
  refine TC.cfalse rfl ?_
  refine TC.seq ?_
  refine TC.region ?_
  refine TL.p (EvP.move rfl) ?_
  refine TL.p (EvP.nilP rfl) ?_
  refine TL.p (EvP.fa (e := 3) rfl Try.runUnderlying65 rfl Try.sizeOf63 rfl) ?_
  refine TL.r (EvR.load rfl Try.isAgg63 (AtB.own (by repeat (first | exact Has.hd | refine Has.tlb ?_ | refine Has.tlc ?_))) (by rfl)) ?_
  refine TL.p (EvP.move rfl) ?_
  refine TL.r (EvR.lookupN kR Try.runUnderlying63 Try.zeroValue2 hv rfl rfl (AtB.own (by repeat (first | exact Has.hd | refine Has.tlb ?_ | refine Has.tlc ?_)))) ?_
  refine TL.p (EvP.eq rfl rfl) ?_
  refine TL.p (EvP.assign rfl) ?_
  refine TL.nil ?_
  refine TX.thenN rfl rfl ?_
  refine TC.ctrue rfl ?_
  refine TC.seq ?_
  refine TC.region ?_
  refine TL.p (EvP.buildS (is := []) (xs := []) rfl Try.runUnderlying48 Try.zeroValue48 rfl (.cons Try.sizeOf2 (.cons Try.sizeOf2 (.cons Try.sizeOf2 .nil))) rfl rfl rfl) ?_
  refine TL.u (EvU.store rfl rfl Try.sizeOf48 rfl rfl rfl rfl (by repeat (first | exact Has.hd | refine Has.tlb ?_ | refine Has.tlc ?_)) (by repeat (first | exact SetLs.nil | exact SetL.here | apply SetLs.cons | apply SetL.there)) (by repeat (first | exact Upd.hd | apply Upd.tlb | apply Upd.tlc))) ?_
  refine TL.p (EvP.assign rfl) ?_
  refine TL.nil ?_
  refine TX.thenN rfl rfl ?_
  refine TC.ret ?_
  refine TX.blkR ?_
  refine TX.thenR ?_
  refine TX.done rfl (Res.ct rfl rfl (run_loadN (vs := [_, _, _]) Try.isAgg48 Try.sizeOf48 (AtB.own (by repeat (first | exact Has.hd | refine Has.tlb ?_ | refine Has.tlc ?_))) (by exact ⟨rfl, rfl, rfl, trivial⟩)) rfl) (fun w hs => Post0.mk hs ?_ (by repeat (first | exact Le.refl _ | exact Le.nil _ | refine Le.hit ?_ | refine Le.hit1 ?_ | refine Le.hit2 ?_ | refine Le.hit3 ?_ | refine Le.hit4 ?_ | refine Le.hit5 ?_ | refine Le.hit6 ?_ | refine Le.hit7 ?_ | refine Le.hit8 ?_ | refine Le.hit9 ?_ | refine Le.hit10 ?_ | refine Le.skip ?_)))
  rfl

theorem find_yes {w0 w : World} {R : List Chunk} {g mb ml mr : Nat} {n : Int} {eb : List (Ent Int)} {cb : Nat} {el : List (Ent (Int × Int))} {cl : Nat} {er : List (Ent Int)} {cr : Nat} {r num : Int} {b : Bond} (hv : valOf r er = some (.int .i64 num)) (hn : ¬num = 0) (hb : valOf num eb = some b.v) (hst : St w0 w ([(g, .cells [.map (some mb), .int .i64 n, .map (some ml), .map (some mr)].toArray 65 (0, 0))] :: [(mb, mapObj kI eb cb)] :: [(ml, mapObj kP el cl)] :: [(mr, mapObj kI er cr)] :: R)) : Calls Try.prog 29 #[.pointer (some ⟨g, 0, none⟩), .int .i64 r] w (Post0 w0 ([(g, .cells [.map (some mb), .int .i64 n, .map (some ml), .map (some mr)].toArray 65 (0, 0))] :: [(mb, mapObj kI eb cb)] :: [(ml, mapObj kP el cl)] :: [(mr, mapObj kI er cr)] :: R) fun u => u = .tuple #[b.v, .int .i64 0]) := by
  refine calls_of (args := [_, _]) Try.func29 rfl Try.ntmps29 hst ?_
  refine TC.seq ?_
  refine TC.region ?_
  refine TL.alloc Try.zeroValue48 rfl (fun b4 => ?_)
  refine TL.p (EvP.assign rfl) ?_
  refine TL.nil ?_
  refine TX.thenN rfl rfl ?_
  refine TC.seq ?_
  refine TC.block ?_
  refine TC.seq ?_
  refine TC.region ?_
  refine TL.p (EvP.move rfl) ?_
  refine TL.p (EvP.eqPtrNil Try.runUnderlying24 rfl rfl) ?_
  refine TL.p (EvP.assign rfl) ?_
  refine TL.nil ?_
  refine TX.thenN rfl rfl ?_
  refine TC.cfalse rfl ?_
  refine TC.seq ?_
  refine TC.region ?_
  refine TL.p (EvP.move rfl) ?_
  refine TL.p (EvP.nilP rfl) ?_
  refine TL.p (EvP.fa (e := 3) rfl Try.runUnderlying65 rfl Try.sizeOf63 rfl) ?_
  refine TL.r (EvR.load rfl Try.isAgg63 (AtB.own (by repeat (first | exact Has.hd | refine Has.tlb ?_ | refine Has.tlc ?_))) (by rfl)) ?_
  refine TL.p (EvP.move rfl) ?_
  refine TL.r (EvR.lookupY kR Try.runUnderlying63 Try.zeroValue2 hv rfl rfl (AtB.own (by repeat (first | exact Has.hd | refine Has.tlb ?_ | refine Has.tlc ?_)))) ?_
  refine TL.p (EvP.isF (EvP.eq rfl rfl) (hn)) ?_
  refine TL.p (EvP.assign rfl) ?_
  refine TL.nil ?_
  refine TX.thenN rfl rfl ?_
  refine TC.cfalse rfl ?_
  refine TC.skip ?_
  refine TX.blkN ?_
  refine TX.thenN rfl rfl ?_
  refine TC.seq ?_
  refine TC.drawn (listed := #[false, false, false, false, false, false, false, false, false, false, false, false, false]) 13 (SH w0 [[(g, .cells [.map (some mb), .int .i64 n, .map (some ml), .map (some mr)].toArray 65 (0, 0))], [(mb, mapObj kI eb cb)], [(mr, mapObj kI er cr)]]) rfl rfl rfl rfl (fun w hs => SH.of hs (by repeat (first | exact Le.refl _ | exact Le.nil _ | refine Le.hit ?_ | refine Le.hit1 ?_ | refine Le.hit2 ?_ | refine Le.hit3 ?_ | refine Le.hit4 ?_ | refine Le.hit5 ?_ | refine Le.hit6 ?_ | refine Le.hit7 ?_ | refine Le.hit8 ?_ | refine Le.hit9 ?_ | refine Le.hit10 ?_ | refine Le.skip ?_))) ?_
  refine TR.take 0 rfl (by kernel_rfl) (by kernel_rfl) (by kernel_rfl) (EvP.r (by exact EvP.move rfl)) (l' := #[true, false, false, false, false, false, false, false, false, false, false, false, false]) rfl ?_
  refine TR.take 1 rfl (by kernel_rfl) (by kernel_rfl) (by kernel_rfl) (EvP.r (by exact EvP.nilP rfl)) (l' := #[true, true, false, false, false, false, false, false, false, false, false, false, false]) rfl ?_
  refine TR.take 2 rfl (by kernel_rfl) (by kernel_rfl) (by kernel_rfl) (EvP.r (by exact EvP.fa (e := 0) rfl Try.runUnderlying65 rfl Try.sizeOf61 rfl)) (l' := #[true, true, true, false, false, false, false, false, false, false, false, false, false]) rfl ?_
  refine TR.take 3 rfl (by kernel_rfl) (by kernel_rfl) (by kernel_rfl) (EvR.load rfl Try.isAgg61 (AtB.own' (by repeat (first | exact Has.hd | refine Has.tlb ?_ | refine Has.tlc ?_))) (by rfl)) (l' := #[true, true, true, true, false, false, false, false, false, false, false, false, false]) rfl ?_
  refine TR.take 4 rfl (by kernel_rfl) (by kernel_rfl) (by kernel_rfl) (EvP.r (by exact EvP.move rfl)) (l' := #[true, true, true, true, true, false, false, false, false, false, false, false, false]) rfl ?_
  refine TR.take 5 rfl (by kernel_rfl) (by kernel_rfl) (by kernel_rfl) (EvP.r (by exact EvP.nilP rfl)) (l' := #[true, true, true, true, true, true, false, false, false, false, false, false, false]) rfl ?_
  refine TR.take 6 rfl (by kernel_rfl) (by kernel_rfl) (by kernel_rfl) (EvP.r (by exact EvP.fa (e := 3) rfl Try.runUnderlying65 rfl Try.sizeOf63 rfl)) (l' := #[true, true, true, true, true, true, true, false, false, false, false, false, false]) rfl ?_
  refine TR.take 7 rfl (by kernel_rfl) (by kernel_rfl) (by kernel_rfl) (EvR.load rfl Try.isAgg63 (AtB.own' (by repeat (first | exact Has.hd | refine Has.tlb ?_ | refine Has.tlc ?_))) (by rfl)) (l' := #[true, true, true, true, true, true, true, true, false, false, false, false, false]) rfl ?_
  refine TR.take 8 rfl (by kernel_rfl) (by kernel_rfl) (by kernel_rfl) (EvP.r (by exact EvP.move rfl)) (l' := #[true, true, true, true, true, true, true, true, true, false, false, false, false]) rfl ?_
  refine TR.take 9 rfl (by kernel_rfl) (by kernel_rfl) (by kernel_rfl) (EvR.lookupY kR Try.runUnderlying63 Try.zeroValue2 hv rfl rfl (AtB.own' (by repeat (first | exact Has.hd | refine Has.tlb ?_ | refine Has.tlc ?_)))) (l' := #[true, true, true, true, true, true, true, true, true, true, false, false, false]) rfl ?_
  refine TR.take 10 rfl (by kernel_rfl) (by kernel_rfl) (by kernel_rfl) (EvR.lookupY kB Try.runUnderlying61 Try.zeroValue48 hb rfl rfl (AtB.own' (by repeat (first | exact Has.hd | refine Has.tlb ?_ | refine Has.tlc ?_)))) (l' := #[true, true, true, true, true, true, true, true, true, true, true, false, false]) rfl ?_
  refine TR.one (i := 11) (by kernel_rfl) ?_
  refine TRi.u rfl (EvU.store rfl rfl Try.sizeOf48 rfl rfl rfl rfl (by repeat (first | exact Has.hd | refine Has.tlb ?_ | refine Has.tlc ?_)) (by repeat (first | exact SetLs.nil | exact SetL.here | apply SetLs.cons | apply SetL.there)) (by repeat (first | exact Upd.hd | apply Upd.tlb | apply Upd.tlc))) (fun w hs => SH.of hs (by repeat (first | exact Le.refl _ | exact Le.nil _ | refine Le.hit ?_ | refine Le.hit1 ?_ | refine Le.hit2 ?_ | refine Le.hit3 ?_ | refine Le.hit4 ?_ | refine Le.hit5 ?_ | refine Le.hit6 ?_ | refine Le.hit7 ?_ | refine Le.hit8 ?_ | refine Le.hit9 ?_ | refine Le.hit10 ?_ | refine Le.skip ?_))) (l' := #[true, true, true, true, true, true, true, true, true, true, true, true, false]) rfl ?_
  refine TR.take 12 rfl (by kernel_rfl) (by kernel_rfl) (by kernel_rfl) (EvP.r (by exact EvP.assign rfl)) (l' := #[true, true, true, true, true, true, true, true, true, true, true, true, true]) rfl ?_
  refine TR.done (by kernel_rfl) ?_
  refine TX.thenN rfl rfl ?_
  refine TC.ret ?_
  refine TX.done rfl (Res.ct rfl rfl (run_loadN (vs := [_, _, _]) Try.isAgg48 Try.sizeOf48 (AtB.own (by repeat (first | exact Has.hd | refine Has.tlb ?_ | refine Has.tlc ?_))) (by exact ⟨rfl, rfl, rfl, trivial⟩)) rfl) (fun w hs => Post0.mk hs ?_ (by repeat (first | exact Le.refl _ | exact Le.nil _ | refine Le.hit ?_ | refine Le.hit1 ?_ | refine Le.hit2 ?_ | refine Le.hit3 ?_ | refine Le.hit4 ?_ | refine Le.hit5 ?_ | refine Le.hit6 ?_ | refine Le.hit7 ?_ | refine Le.hit8 ?_ | refine Le.hit9 ?_ | refine Le.hit10 ?_ | refine Le.skip ?_)))
  rfl

theorem leave_no {w0 w : World} {R : List Chunk} {g mb ml mr : Nat} {n : Int} {eb : List (Ent Int)} {cb : Nat} {el : List (Ent (Int × Int))} {cl : Nat} {er : List (Ent Int)} {cr : Nat} {r : Int} (hv : valOf r er = none) (hst : St w0 w ([(g, .cells [.map (some mb), .int .i64 n, .map (some ml), .map (some mr)].toArray 65 (0, 0))] :: [(mb, mapObj kI eb cb)] :: [(ml, mapObj kP el cl)] :: [(mr, mapObj kI er cr)] :: R)) : Calls Try.prog 28 #[.pointer (some ⟨g, 0, none⟩), .int .i64 r] w (Post0 w0 ([(g, .cells [.map (some mb), .int .i64 n, .map (some ml), .map (some mr)].toArray 65 (0, 0))] :: [(mb, mapObj kI eb cb)] :: [(ml, mapObj kP el cl)] :: [(mr, mapObj kI er cr)] :: R) fun u => u = .tuple #[Bond.zero.v, .int .i64 5]) := by
  refine calls_of (args := [_, _]) Try.func28 rfl Try.ntmps28 hst ?_
  refine TC.seq ?_
  refine TC.region ?_
  refine TL.alloc Try.zeroValue48 rfl (fun b4 => ?_)
  refine TL.p (EvP.assign rfl) ?_
  refine TL.nil ?_
  refine TX.thenN rfl rfl ?_
  refine TC.seq ?_
  refine TC.region ?_
  refine TL.p (EvP.move rfl) ?_
  refine TL.p (EvP.move rfl) ?_
  refine TL.le (Le.hit1 (Le.hit1 (Le.hit1 (Le.hit1 (Le.refl _))))) ?_
  refine TL.callA rfl rfl Try.call29 (fun w hs => find_no hv hs) ?_
  rintro _ rfl
  refine TL.p (EvP.move rfl) ?_
  refine TL.p (EvP.extract rfl rfl) ?_
  refine TL.p (EvP.extract rfl rfl) ?_
  refine TL.alloc Try.zeroValue48 rfl (fun b6 => ?_)
  refine TL.u (EvU.store rfl rfl Try.sizeOf48 rfl rfl rfl rfl (by repeat (first | exact Has.hd | refine Has.tlb ?_ | refine Has.tlc ?_)) (by repeat (first | exact SetLs.nil | exact SetL.here | apply SetLs.cons | apply SetL.there)) (by repeat (first | exact Upd.hd | apply Upd.tlb | apply Upd.tlc))) ?_
  refine TL.p (EvP.assign rfl) ?_
  refine TL.nil ?_
  refine TX.thenN rfl rfl ?_
  refine TC.seq ?_
  refine TC.seq ?_
  refine TC.region ?_
  refine TL.p (EvP.move rfl) ?_
  refine TL.p (EvP.eq rfl rfl) ?_
  refine TL.nil ?_
  refine TX.thenN rfl rfl ?_
  refine TC.cfalse rfl ?_
  refine TC.skip ?_
  refine TX.thenN rfl rfl ?_
  refine TC.seq ?_
  refine TC.region ?_
  refine TL.r (EvR.loadN (vs := [_, _, _]) rfl Try.isAgg48 Try.sizeOf48 (AtB.own (by repeat (first | exact Has.hd | refine Has.tlb ?_ | refine Has.tlc ?_))) (by exact ⟨rfl, rfl, rfl,  trivial⟩)) ?_
  refine TL.p (EvP.move rfl) ?_
  refine TL.u (EvU.store rfl rfl Try.sizeOf48 rfl rfl rfl rfl (by repeat (first | exact Has.hd | refine Has.tlb ?_ | refine Has.tlc ?_)) (by repeat (first | exact SetLs.nil | exact SetL.here | apply SetLs.cons | apply SetL.there)) (by repeat (first | exact Upd.hd | apply Upd.tlb | apply Upd.tlc))) ?_
  refine TL.p (EvP.assign rfl) ?_
  refine TL.nil ?_
  refine TX.thenN rfl rfl ?_
  refine TC.ret ?_
  refine TX.done rfl (Res.ct rfl rfl (run_loadN (vs := [_, _, _]) Try.isAgg48 Try.sizeOf48 (AtB.own (by repeat (first | exact Has.hd | refine Has.tlb ?_ | refine Has.tlc ?_))) (by exact ⟨rfl, rfl, rfl, trivial⟩)) rfl) (fun w hs => Post0.mk hs ?_ (by repeat (first | exact Le.refl _ | exact Le.nil _ | refine Le.hit ?_ | refine Le.hit1 ?_ | refine Le.hit2 ?_ | refine Le.hit3 ?_ | refine Le.hit4 ?_ | refine Le.hit5 ?_ | refine Le.hit6 ?_ | refine Le.hit7 ?_ | refine Le.hit8 ?_ | refine Le.hit9 ?_ | refine Le.hit10 ?_ | refine Le.skip ?_)))
  rfl

theorem leave_yes {w0 w : World} {R : List Chunk} {g mb ml mr : Nat} {n : Int} {eb : List (Ent Int)} {cb : Nat} {el : List (Ent (Int × Int))} {cl : Nat} {er : List (Ent Int)} {cr : Nat} {r num : Int} {b : Bond} (hv : valOf r er = some (.int .i64 num)) (hn : ¬num = 0) (hb : valOf num eb = some b.v) (hr : ¬b.r = 0) (hst : St w0 w ([(g, .cells [.map (some mb), .int .i64 n, .map (some ml), .map (some mr)].toArray 65 (0, 0))] :: [(mb, mapObj kI eb cb)] :: [(ml, mapObj kP el cl)] :: [(mr, mapObj kI er cr)] :: R)) : Calls Try.prog 28 #[.pointer (some ⟨g, 0, none⟩), .int .i64 r] w (Post0 w0 ([(g, .cells [.map (some mb), .int .i64 n, .map (some ml), .map (some mr)].toArray 65 (0, 0))] :: [(mb, mapObj kI (delE num eb) cb)] :: [(ml, mapObj kP el cl)] :: [(mr, mapObj kI (delE b.r er) cr)] :: R) fun u => u = .tuple #[b.v, .int .i64 0]) := by
  refine calls_of (args := [_, _]) Try.func28 rfl Try.ntmps28 hst ?_
  refine TC.seq ?_
  refine TC.region ?_
  refine TL.alloc Try.zeroValue48 rfl (fun b4 => ?_)
  refine TL.p (EvP.assign rfl) ?_
  refine TL.nil ?_
  refine TX.thenN rfl rfl ?_
  refine TC.seq ?_
  refine TC.region ?_
  refine TL.p (EvP.move rfl) ?_
  refine TL.p (EvP.move rfl) ?_
  refine TL.le (Le.hit1 (Le.hit1 (Le.hit1 (Le.hit1 (Le.refl _))))) ?_
  refine TL.callA rfl rfl Try.call29 (fun w hs => find_yes hv hn hb hs) ?_
  rintro _ rfl
  refine TL.p (EvP.move rfl) ?_
  refine TL.p (EvP.extract rfl rfl) ?_
  refine TL.p (EvP.extract rfl rfl) ?_
  refine TL.alloc Try.zeroValue48 rfl (fun b6 => ?_)
  refine TL.u (EvU.store rfl rfl Try.sizeOf48 rfl rfl rfl rfl (by repeat (first | exact Has.hd | refine Has.tlb ?_ | refine Has.tlc ?_)) (by repeat (first | exact SetLs.nil | exact SetL.here | apply SetLs.cons | apply SetL.there)) (by repeat (first | exact Upd.hd | apply Upd.tlb | apply Upd.tlc))) ?_
  refine TL.p (EvP.assign rfl) ?_
  refine TL.nil ?_
  refine TX.thenN rfl rfl ?_
  refine TC.seq ?_
  refine TC.seq ?_
  refine TC.region ?_
  refine TL.p (EvP.move rfl) ?_
  refine TL.p (EvP.eq rfl rfl) ?_
  refine TL.nil ?_
  refine TX.thenN rfl rfl ?_
  refine TC.ctrue rfl ?_
  refine TC.region ?_
  refine TL.p (EvP.move rfl) ?_
  refine TL.p (EvP.move rfl) ?_
  refine TL.p (EvP.nilP rfl) ?_
  refine TL.p (EvP.fa (e := 3) rfl Try.runUnderlying65 rfl Try.sizeOf63 rfl) ?_
  refine TL.r (EvR.load rfl Try.isAgg63 (AtB.own (by repeat (first | exact Has.hd | refine Has.tlb ?_ | refine Has.tlc ?_))) (by rfl)) ?_
  refine TL.p (EvP.move rfl) ?_
  refine TL.r (EvR.lookupY kR Try.runUnderlying63 Try.zeroValue2 hv rfl rfl (AtB.own (by repeat (first | exact Has.hd | refine Has.tlb ?_ | refine Has.tlc ?_)))) ?_
  refine TL.le (Le.hit1 (Le.hit1 (Le.hit2 (Le.refl _)))) ?_
  refine TL.callA rfl rfl Try.call42 (fun w hs => out_raw1 hb hr hs) ?_
  rintro _ _
  refine TL.nil ?_
  refine TX.thenN rfl rfl ?_
  refine TC.seq ?_
  refine TC.region ?_
  refine TL.r (EvR.loadN (vs := [_, _, _]) rfl Try.isAgg48 Try.sizeOf48 (AtB.own (by repeat (first | exact Has.hd | refine Has.tlb ?_ | refine Has.tlc ?_))) (by exact ⟨rfl, rfl, rfl,  trivial⟩)) ?_
  refine TL.p (EvP.move rfl) ?_
  refine TL.u (EvU.store rfl rfl Try.sizeOf48 rfl rfl rfl rfl (by repeat (first | exact Has.hd | refine Has.tlb ?_ | refine Has.tlc ?_)) (by repeat (first | exact SetLs.nil | exact SetL.here | apply SetLs.cons | apply SetL.there)) (by repeat (first | exact Upd.hd | apply Upd.tlb | apply Upd.tlc))) ?_
  refine TL.p (EvP.assign rfl) ?_
  refine TL.nil ?_
  refine TX.thenN rfl rfl ?_
  refine TC.ret ?_
  refine TX.done rfl (Res.ct rfl rfl (run_loadN (vs := [_, _, _]) Try.isAgg48 Try.sizeOf48 (AtB.own (by repeat (first | exact Has.hd | refine Has.tlb ?_ | refine Has.tlc ?_))) (by exact ⟨rfl, rfl, rfl, trivial⟩)) rfl) (fun w hs => Post0.mk hs ?_ (by repeat (first | exact Le.refl _ | exact Le.nil _ | refine Le.hit ?_ | refine Le.hit1 ?_ | refine Le.hit2 ?_ | refine Le.hit3 ?_ | refine Le.hit4 ?_ | refine Le.hit5 ?_ | refine Le.hit6 ?_ | refine Le.hit7 ?_ | refine Le.hit8 ?_ | refine Le.hit9 ?_ | refine Le.hit10 ?_ | refine Le.skip ?_)))
  rfl

theorem len_raw {w0 w : World} {R : List Chunk} {g mb ml mr : Nat} {n : Int} {eb : List (Ent Int)} {cb : Nat} {el : List (Ent (Int × Int))} {cl : Nat} {er : List (Ent Int)} {cr : Nat} (hst : St w0 w ([(g, .cells [.map (some mb), .int .i64 n, .map (some ml), .map (some mr)].toArray 65 (0, 0))] :: [(mb, mapObj kI eb cb)] :: [(ml, mapObj kP el cl)] :: [(mr, mapObj kI er cr)] :: R)) : Calls Try.prog 22 #[.pointer (some ⟨g, 0, none⟩)] w (Post0 w0 ([(g, .cells [.map (some mb), .int .i64 n, .map (some ml), .map (some mr)].toArray 65 (0, 0))] :: [(mb, mapObj kI eb cb)] :: [(ml, mapObj kP el cl)] :: [(mr, mapObj kI er cr)] :: R) fun u => u = .int .i64 eb.length) := by
  refine calls_of (args := [_]) Try.func22 rfl Try.ntmps22 hst ?_
  refine TC.seq ?_
  refine TC.region ?_
  refine TL.p (EvP.assign rfl) ?_
  refine TL.nil ?_
  refine TX.thenN rfl rfl ?_
  refine TC.seq ?_
  refine TC.seq ?_
  refine TC.region ?_
  refine TL.p (EvP.move rfl) ?_
  refine TL.p (EvP.eqPtrNil Try.runUnderlying24 rfl rfl) ?_
  refine TL.nil ?_
  refine TX.thenN rfl rfl ?_
  refine TC.cfalse rfl ?_
  refine TC.skip ?_
  refine TX.thenN rfl rfl ?_
  refine TC.seq ?_
  refine TC.region ?_
  refine TL.p (EvP.move rfl) ?_
  refine TL.p (EvP.nilP rfl) ?_
  refine TL.p (EvP.fa (e := 0) rfl Try.runUnderlying65 rfl Try.sizeOf61 rfl) ?_
  refine TL.r (EvR.load rfl Try.isAgg61 (AtB.own (by repeat (first | exact Has.hd | refine Has.tlb ?_ | refine Has.tlc ?_))) (by rfl)) ?_
  refine TL.r (EvR.lenM (ke := kI) Try.runUnderlying61 rfl (AtB.own (by repeat (first | exact Has.hd | refine Has.tlb ?_ | refine Has.tlc ?_)))) ?_
  refine TL.p (EvP.assign rfl) ?_
  refine TL.nil ?_
  refine TX.thenN rfl rfl ?_
  refine TC.ret ?_
  refine TX.done rfl (Res.one rfl rfl) (fun w hs => Post0.mk hs ?_ (by repeat (first | exact Le.refl _ | exact Le.nil _ | refine Le.hit ?_ | refine Le.hit1 ?_ | refine Le.hit2 ?_ | refine Le.hit3 ?_ | refine Le.hit4 ?_ | refine Le.hit5 ?_ | refine Le.hit6 ?_ | refine Le.hit7 ?_ | refine Le.hit8 ?_ | refine Le.hit9 ?_ | refine Le.hit10 ?_ | refine Le.skip ?_)))
  rfl

theorem linked_no {w0 w : World} {R : List Chunk} {g mb ml mr : Nat} {n : Int} {eb : List (Ent Int)} {cb : Nat} {el : List (Ent (Int × Int))} {cl : Nat} {er : List (Ent Int)} {cr : Nat} {a b : Int} (hv : valOf (min a b, max a b) el = none) (hst : St w0 w ([(g, .cells [.map (some mb), .int .i64 n, .map (some ml), .map (some mr)].toArray 65 (0, 0))] :: [(mb, mapObj kI eb cb)] :: [(ml, mapObj kP el cl)] :: [(mr, mapObj kI er cr)] :: R)) : Calls Try.prog 26 #[.pointer (some ⟨g, 0, none⟩), .int .i64 a, .int .i64 b] w (Post0 w0 ([(g, .cells [.map (some mb), .int .i64 n, .map (some ml), .map (some mr)].toArray 65 (0, 0))] :: [(mb, mapObj kI eb cb)] :: [(ml, mapObj kP el cl)] :: [(mr, mapObj kI er cr)] :: R) fun u => u = .bool false) := by
  refine calls_of (args := [_, _, _]) Try.func26 rfl Try.ntmps26 hst ?_
  refine TC.seq ?_
  refine TC.region ?_
  refine TL.p (EvP.assign rfl) ?_
  refine TL.nil ?_
  refine TX.thenN rfl rfl ?_
  refine TC.seq ?_
  refine TC.drawn (listed := #[false, false, false, false, false, false, false, false, false, false, false, false, false, false]) 14 (SH w0 [[(g, .cells [.map (some mb), .int .i64 n, .map (some ml), .map (some mr)].toArray 65 (0, 0))], [(ml, mapObj kP el cl)]]) rfl rfl rfl rfl (fun w hs => SH.of hs (by repeat (first | exact Le.refl _ | exact Le.nil _ | refine Le.hit ?_ | refine Le.hit1 ?_ | refine Le.hit2 ?_ | refine Le.hit3 ?_ | refine Le.hit4 ?_ | refine Le.hit5 ?_ | refine Le.hit6 ?_ | refine Le.hit7 ?_ | refine Le.hit8 ?_ | refine Le.hit9 ?_ | refine Le.hit10 ?_ | refine Le.skip ?_))) ?_
  refine TR.take 0 rfl (by kernel_rfl) (by kernel_rfl) (by kernel_rfl) (EvP.r (by exact EvP.move rfl)) (l' := #[true, false, false, false, false, false, false, false, false, false, false, false, false, false]) rfl ?_
  refine TR.take 1 rfl (by kernel_rfl) (by kernel_rfl) (by kernel_rfl) (EvP.r (by exact EvP.nePtrNil Try.runUnderlying24 rfl rfl)) (l' := #[true, true, false, false, false, false, false, false, false, false, false, false, false, false]) rfl ?_
  refine TR.take 2 rfl (by kernel_rfl) (by kernel_rfl) (by kernel_rfl) (EvP.r (by exact EvP.move rfl)) (l' := #[true, true, true, false, false, false, false, false, false, false, false, false, false, false]) rfl ?_
  refine TR.takeY 3 rfl rfl rfl rfl (by kernel_rfl) (by kernel_rfl) (by kernel_rfl) (EvP.r (by exact EvP.move rfl)) (l' := #[true, true, true, true, false, false, false, false, false, false, false, false, false, false]) rfl ?_
  refine TR.takeY 4 rfl rfl rfl rfl (by kernel_rfl) (by kernel_rfl) (by kernel_rfl) (EvP.r (by exact EvP.nilP rfl)) (l' := #[true, true, true, true, true, false, false, false, false, false, false, false, false, false]) rfl ?_
  refine TR.takeY 5 rfl rfl rfl rfl (by kernel_rfl) (by kernel_rfl) (by kernel_rfl) (EvP.r (by exact EvP.fa (e := 2) rfl Try.runUnderlying65 rfl Try.sizeOf62 rfl)) (l' := #[true, true, true, true, true, true, false, false, false, false, false, false, false, false]) rfl ?_
  refine TR.takeY 6 rfl rfl rfl rfl (by kernel_rfl) (by kernel_rfl) (by kernel_rfl) (EvR.load rfl Try.isAgg62 (AtB.own' (by repeat (first | exact Has.hd | refine Has.tlb ?_ | refine Has.tlc ?_))) (by rfl)) (l' := #[true, true, true, true, true, true, true, false, false, false, false, false, false, false]) rfl ?_
  refine TR.takeY 7 rfl rfl rfl rfl (by kernel_rfl) (by kernel_rfl) (by kernel_rfl) (EvP.r (by exact EvP.move rfl)) (l' := #[true, true, true, true, true, true, true, true, false, false, false, false, false, false]) rfl ?_
  refine TR.takeY 8 rfl rfl rfl rfl (by kernel_rfl) (by kernel_rfl) (by kernel_rfl) (EvP.r (by exact EvP.move rfl)) (l' := #[true, true, true, true, true, true, true, true, true, false, false, false, false, false]) rfl ?_
  refine TR.one (i := 9) (by kernel_rfl) ?_
  refine TRi.callG rfl rfl rfl rfl rfl rfl Try.call45 (fun w hs => pairOf_spec a b hs) (l' := #[true, true, true, true, true, true, true, true, true, true, false, false, false, false]) rfl ?_
  rintro _ _ ⟨rfl, rfl⟩
  refine ⟨fun w hs => SH.of hs (by repeat (first | exact Le.refl _ | exact Le.nil _ | refine Le.hit ?_ | refine Le.hit1 ?_ | refine Le.hit2 ?_ | refine Le.hit3 ?_ | refine Le.hit4 ?_ | refine Le.hit5 ?_ | refine Le.hit6 ?_ | refine Le.hit7 ?_ | refine Le.hit8 ?_ | refine Le.hit9 ?_ | refine Le.hit10 ?_ | refine Le.skip ?_)), ?_⟩
  refine TR.takeY 10 rfl rfl rfl rfl (by kernel_rfl) (by kernel_rfl) (by kernel_rfl) (EvR.lookupN kPr (k := (min a b, max a b)) Try.runUnderlying62 Try.zeroValue2 hv rfl rfl (AtB.own' (by repeat (first | exact Has.hd | refine Has.tlb ?_ | refine Has.tlc ?_)))) (l' := #[true, true, true, true, true, true, true, true, true, true, true, false, false, false]) rfl ?_
  refine TR.takeY 11 rfl rfl rfl rfl (by kernel_rfl) (by kernel_rfl) (by kernel_rfl) (EvP.r (by exact EvP.ne rfl rfl)) (l' := #[true, true, true, true, true, true, true, true, true, true, true, true, false, false]) rfl ?_
  refine TR.take 12 rfl (by kernel_rfl) (by kernel_rfl) (by kernel_rfl) (EvP.r (by exact EvP.pickT rfl rfl)) (l' := #[true, true, true, true, true, true, true, true, true, true, true, true, true, false]) rfl ?_
  refine TR.take 13 rfl (by kernel_rfl) (by kernel_rfl) (by kernel_rfl) (EvP.r (by exact EvP.assign rfl)) (l' := #[true, true, true, true, true, true, true, true, true, true, true, true, true, true]) rfl ?_
  refine TR.done (by kernel_rfl) ?_
  refine TX.thenN rfl rfl ?_
  refine TC.ret ?_
  refine TX.done rfl (Res.one rfl rfl) (fun w hs => Post0.mk hs ?_ (by repeat (first | exact Le.refl _ | exact Le.nil _ | refine Le.hit ?_ | refine Le.hit1 ?_ | refine Le.hit2 ?_ | refine Le.hit3 ?_ | refine Le.hit4 ?_ | refine Le.hit5 ?_ | refine Le.hit6 ?_ | refine Le.hit7 ?_ | refine Le.hit8 ?_ | refine Le.hit9 ?_ | refine Le.hit10 ?_ | refine Le.skip ?_)))
  rfl

theorem linked_yes {w0 w : World} {R : List Chunk} {g mb ml mr : Nat} {n : Int} {eb : List (Ent Int)} {cb : Nat} {el : List (Ent (Int × Int))} {cl : Nat} {er : List (Ent Int)} {cr : Nat} {a b num : Int} (hv : valOf (min a b, max a b) el = some (.int .i64 num)) (hn : num ≠ 0) (hst : St w0 w ([(g, .cells [.map (some mb), .int .i64 n, .map (some ml), .map (some mr)].toArray 65 (0, 0))] :: [(mb, mapObj kI eb cb)] :: [(ml, mapObj kP el cl)] :: [(mr, mapObj kI er cr)] :: R)) : Calls Try.prog 26 #[.pointer (some ⟨g, 0, none⟩), .int .i64 a, .int .i64 b] w (Post0 w0 ([(g, .cells [.map (some mb), .int .i64 n, .map (some ml), .map (some mr)].toArray 65 (0, 0))] :: [(mb, mapObj kI eb cb)] :: [(ml, mapObj kP el cl)] :: [(mr, mapObj kI er cr)] :: R) fun u => u = .bool true) := by
  refine calls_of (args := [_, _, _]) Try.func26 rfl Try.ntmps26 hst ?_
  refine TC.seq ?_
  refine TC.region ?_
  refine TL.p (EvP.assign rfl) ?_
  refine TL.nil ?_
  refine TX.thenN rfl rfl ?_
  refine TC.seq ?_
  refine TC.drawn (listed := #[false, false, false, false, false, false, false, false, false, false, false, false, false, false]) 14 (SH w0 [[(g, .cells [.map (some mb), .int .i64 n, .map (some ml), .map (some mr)].toArray 65 (0, 0))], [(ml, mapObj kP el cl)]]) rfl rfl rfl rfl (fun w hs => SH.of hs (by repeat (first | exact Le.refl _ | exact Le.nil _ | refine Le.hit ?_ | refine Le.hit1 ?_ | refine Le.hit2 ?_ | refine Le.hit3 ?_ | refine Le.hit4 ?_ | refine Le.hit5 ?_ | refine Le.hit6 ?_ | refine Le.hit7 ?_ | refine Le.hit8 ?_ | refine Le.hit9 ?_ | refine Le.hit10 ?_ | refine Le.skip ?_))) ?_
  refine TR.take 0 rfl (by kernel_rfl) (by kernel_rfl) (by kernel_rfl) (EvP.r (by exact EvP.move rfl)) (l' := #[true, false, false, false, false, false, false, false, false, false, false, false, false, false]) rfl ?_
  refine TR.take 1 rfl (by kernel_rfl) (by kernel_rfl) (by kernel_rfl) (EvP.r (by exact EvP.nePtrNil Try.runUnderlying24 rfl rfl)) (l' := #[true, true, false, false, false, false, false, false, false, false, false, false, false, false]) rfl ?_
  refine TR.take 2 rfl (by kernel_rfl) (by kernel_rfl) (by kernel_rfl) (EvP.r (by exact EvP.move rfl)) (l' := #[true, true, true, false, false, false, false, false, false, false, false, false, false, false]) rfl ?_
  refine TR.takeY 3 rfl rfl rfl rfl (by kernel_rfl) (by kernel_rfl) (by kernel_rfl) (EvP.r (by exact EvP.move rfl)) (l' := #[true, true, true, true, false, false, false, false, false, false, false, false, false, false]) rfl ?_
  refine TR.takeY 4 rfl rfl rfl rfl (by kernel_rfl) (by kernel_rfl) (by kernel_rfl) (EvP.r (by exact EvP.nilP rfl)) (l' := #[true, true, true, true, true, false, false, false, false, false, false, false, false, false]) rfl ?_
  refine TR.takeY 5 rfl rfl rfl rfl (by kernel_rfl) (by kernel_rfl) (by kernel_rfl) (EvP.r (by exact EvP.fa (e := 2) rfl Try.runUnderlying65 rfl Try.sizeOf62 rfl)) (l' := #[true, true, true, true, true, true, false, false, false, false, false, false, false, false]) rfl ?_
  refine TR.takeY 6 rfl rfl rfl rfl (by kernel_rfl) (by kernel_rfl) (by kernel_rfl) (EvR.load rfl Try.isAgg62 (AtB.own' (by repeat (first | exact Has.hd | refine Has.tlb ?_ | refine Has.tlc ?_))) (by rfl)) (l' := #[true, true, true, true, true, true, true, false, false, false, false, false, false, false]) rfl ?_
  refine TR.takeY 7 rfl rfl rfl rfl (by kernel_rfl) (by kernel_rfl) (by kernel_rfl) (EvP.r (by exact EvP.move rfl)) (l' := #[true, true, true, true, true, true, true, true, false, false, false, false, false, false]) rfl ?_
  refine TR.takeY 8 rfl rfl rfl rfl (by kernel_rfl) (by kernel_rfl) (by kernel_rfl) (EvP.r (by exact EvP.move rfl)) (l' := #[true, true, true, true, true, true, true, true, true, false, false, false, false, false]) rfl ?_
  refine TR.one (i := 9) (by kernel_rfl) ?_
  refine TRi.callG rfl rfl rfl rfl rfl rfl Try.call45 (fun w hs => pairOf_spec a b hs) (l' := #[true, true, true, true, true, true, true, true, true, true, false, false, false, false]) rfl ?_
  rintro _ _ ⟨rfl, rfl⟩
  refine ⟨fun w hs => SH.of hs (by repeat (first | exact Le.refl _ | exact Le.nil _ | refine Le.hit ?_ | refine Le.hit1 ?_ | refine Le.hit2 ?_ | refine Le.hit3 ?_ | refine Le.hit4 ?_ | refine Le.hit5 ?_ | refine Le.hit6 ?_ | refine Le.hit7 ?_ | refine Le.hit8 ?_ | refine Le.hit9 ?_ | refine Le.hit10 ?_ | refine Le.skip ?_)), ?_⟩
  refine TR.takeY 10 rfl rfl rfl rfl (by kernel_rfl) (by kernel_rfl) (by kernel_rfl) (EvR.lookupY kPr (k := (min a b, max a b)) Try.runUnderlying62 Try.zeroValue2 hv rfl rfl (AtB.own' (by repeat (first | exact Has.hd | refine Has.tlb ?_ | refine Has.tlc ?_)))) (l' := #[true, true, true, true, true, true, true, true, true, true, true, false, false, false]) rfl ?_
  refine TR.takeY 11 rfl rfl rfl rfl (by kernel_rfl) (by kernel_rfl) (by kernel_rfl) (EvP.r (by exact EvP.isT (EvP.ne rfl rfl) (hn))) (l' := #[true, true, true, true, true, true, true, true, true, true, true, true, false, false]) rfl ?_
  refine TR.take 12 rfl (by kernel_rfl) (by kernel_rfl) (by kernel_rfl) (EvP.r (by exact EvP.pickT rfl rfl)) (l' := #[true, true, true, true, true, true, true, true, true, true, true, true, true, false]) rfl ?_
  refine TR.take 13 rfl (by kernel_rfl) (by kernel_rfl) (by kernel_rfl) (EvP.r (by exact EvP.assign rfl)) (l' := #[true, true, true, true, true, true, true, true, true, true, true, true, true, true]) rfl ?_
  refine TR.done (by kernel_rfl) ?_
  refine TX.thenN rfl rfl ?_
  refine TC.ret ?_
  refine TX.done rfl (Res.one rfl rfl) (fun w hs => Post0.mk hs ?_ (by repeat (first | exact Le.refl _ | exact Le.nil _ | refine Le.hit ?_ | refine Le.hit1 ?_ | refine Le.hit2 ?_ | refine Le.hit3 ?_ | refine Le.hit4 ?_ | refine Le.hit5 ?_ | refine Le.hit6 ?_ | refine Le.hit7 ?_ | refine Le.hit8 ?_ | refine Le.hit9 ?_ | refine Le.hit10 ?_ | refine Le.skip ?_)))
  rfl

theorem link_bad {w0 w : World} {R : List Chunk} {g mb ml mr : Nat} {n : Int} {eb : List (Ent Int)} {cb : Nat} {el : List (Ent (Int × Int))} {cl : Nat} {er : List (Ent Int)} {cr : Nat} {a b : Int} (hok : okTwo a b = false) (hst : St w0 w ([(g, .cells [.map (some mb), .int .i64 n, .map (some ml), .map (some mr)].toArray 65 (0, 0))] :: [(mb, mapObj kI eb cb)] :: [(ml, mapObj kP el cl)] :: [(mr, mapObj kI er cr)] :: R)) : Calls Try.prog 30 #[.pointer (some ⟨g, 0, none⟩), .int .i64 a, .int .i64 b] w (Post0 w0 ([(g, .cells [.map (some mb), .int .i64 n, .map (some ml), .map (some mr)].toArray 65 (0, 0))] :: [(mb, mapObj kI eb cb)] :: [(ml, mapObj kP el cl)] :: [(mr, mapObj kI er cr)] :: R) fun u => u = .int .i64 1) := by
  refine calls_of (args := [_, _, _]) Try.func30 rfl Try.ntmps30 hst ?_
  refine TC.seq ?_
  refine TC.region ?_
  refine TL.p (EvP.assign rfl) ?_
  refine TL.nil ?_
  refine TX.thenN rfl rfl ?_
  refine TC.seq ?_
  refine TC.seq ?_
  refine TC.region ?_
  refine TL.p (EvP.move rfl) ?_
  refine TL.p (EvP.move rfl) ?_
  refine TL.p (EvP.move rfl) ?_
  refine TL.callA rfl rfl Try.call49 (fun w hs => two_bad hok hs) ?_
  rintro _ rfl
  refine TL.p (EvP.assign rfl) ?_
  refine TL.nil ?_
  refine TX.thenN rfl rfl ?_
  refine TC.seq ?_
  refine TC.region ?_
  refine TL.p (EvP.move rfl) ?_
  refine TL.p (EvP.ne rfl rfl) ?_
  refine TL.nil ?_
  refine TX.thenN rfl rfl ?_
  refine TC.ctrue rfl ?_
  refine TC.seq ?_
  refine TC.region ?_
  refine TL.p (EvP.move rfl) ?_
  refine TL.p (EvP.assign rfl) ?_
  refine TL.nil ?_
  refine TX.thenN rfl rfl ?_
  refine TC.ret ?_
  refine TX.thenR ?_
  refine TX.done rfl (Res.one rfl rfl) (fun w hs => Post0.mk hs ?_ (by repeat (first | exact Le.refl _ | exact Le.nil _ | refine Le.hit ?_ | refine Le.hit1 ?_ | refine Le.hit2 ?_ | refine Le.hit3 ?_ | refine Le.hit4 ?_ | refine Le.hit5 ?_ | refine Le.hit6 ?_ | refine Le.hit7 ?_ | refine Le.hit8 ?_ | refine Le.hit9 ?_ | refine Le.hit10 ?_ | refine Le.skip ?_)))
  rfl

theorem link_dup {w0 w : World} {R : List Chunk} {g mb ml mr : Nat} {n : Int} {eb : List (Ent Int)} {cb : Nat} {el : List (Ent (Int × Int))} {cl : Nat} {er : List (Ent Int)} {cr : Nat} {a b num : Int} (hok : okTwo a b = true) (hv : valOf (min a b, max a b) el = some (.int .i64 num)) (hn : num ≠ 0) (hst : St w0 w ([(g, .cells [.map (some mb), .int .i64 n, .map (some ml), .map (some mr)].toArray 65 (0, 0))] :: [(mb, mapObj kI eb cb)] :: [(ml, mapObj kP el cl)] :: [(mr, mapObj kI er cr)] :: R)) : Calls Try.prog 30 #[.pointer (some ⟨g, 0, none⟩), .int .i64 a, .int .i64 b] w (Post0 w0 ([(g, .cells [.map (some mb), .int .i64 n, .map (some ml), .map (some mr)].toArray 65 (0, 0))] :: [(mb, mapObj kI eb cb)] :: [(ml, mapObj kP el cl)] :: [(mr, mapObj kI er cr)] :: R) fun u => u = .int .i64 6) := by
  refine calls_of (args := [_, _, _]) Try.func30 rfl Try.ntmps30 hst ?_
  refine TC.seq ?_
  refine TC.region ?_
  refine TL.p (EvP.assign rfl) ?_
  refine TL.nil ?_
  refine TX.thenN rfl rfl ?_
  refine TC.seq ?_
  refine TC.seq ?_
  refine TC.region ?_
  refine TL.p (EvP.move rfl) ?_
  refine TL.p (EvP.move rfl) ?_
  refine TL.p (EvP.move rfl) ?_
  refine TL.callA rfl rfl Try.call49 (fun w hs => two_ok hok hs) ?_
  rintro _ rfl
  refine TL.p (EvP.assign rfl) ?_
  refine TL.nil ?_
  refine TX.thenN rfl rfl ?_
  refine TC.seq ?_
  refine TC.region ?_
  refine TL.p (EvP.move rfl) ?_
  refine TL.p (EvP.ne rfl rfl) ?_
  refine TL.nil ?_
  refine TX.thenN rfl rfl ?_
  refine TC.cfalse rfl ?_
  refine TC.skip ?_
  refine TX.thenN rfl rfl ?_
  refine TC.seq ?_
  refine TC.region ?_
  refine TL.p (EvP.move rfl) ?_
  refine TL.p (EvP.move rfl) ?_
  refine TL.callA rfl rfl Try.call45 (fun w hs => pairOf_spec a b hs) ?_
  rintro _ rfl
  refine TL.alloc Try.zeroValue77 rfl (fun b8 => ?_)
  refine TL.u (EvU.store rfl rfl Try.sizeOf77 rfl rfl rfl rfl (by repeat (first | exact Has.hd | refine Has.tlb ?_ | refine Has.tlc ?_)) (by repeat (first | exact SetLs.nil | exact SetL.here | apply SetLs.cons | apply SetL.there)) (by repeat (first | exact Upd.hd | apply Upd.tlb | apply Upd.tlc))) ?_
  refine TL.nil ?_
  refine TX.thenN rfl rfl ?_
  refine TC.seq ?_
  refine TC.block ?_
  refine TC.seq ?_
  refine TC.drawn (listed := #[false, false, false, false, false, false, false, false]) 8 (SH w0 [[(g, .cells [.map (some mb), .int .i64 n, .map (some ml), .map (some mr)].toArray 65 (0, 0))], [(ml, mapObj kP el cl)], [(b8, .cells [.int .i64 (min a b), .int .i64 (max a b)].toArray 77 (0, 0))]]) rfl rfl rfl rfl (fun w hs => SH.of hs (by repeat (first | exact Le.refl _ | exact Le.nil _ | refine Le.hit ?_ | refine Le.hit1 ?_ | refine Le.hit2 ?_ | refine Le.hit3 ?_ | refine Le.hit4 ?_ | refine Le.hit5 ?_ | refine Le.hit6 ?_ | refine Le.hit7 ?_ | refine Le.hit8 ?_ | refine Le.hit9 ?_ | refine Le.hit10 ?_ | refine Le.skip ?_))) ?_
  refine TR.take 0 rfl (by kernel_rfl) (by kernel_rfl) (by kernel_rfl) (EvP.r (by exact EvP.move rfl)) (l' := #[true, false, false, false, false, false, false, false]) rfl ?_
  refine TR.take 1 rfl (by kernel_rfl) (by kernel_rfl) (by kernel_rfl) (EvP.r (by exact EvP.nilP rfl)) (l' := #[true, true, false, false, false, false, false, false]) rfl ?_
  refine TR.take 2 rfl (by kernel_rfl) (by kernel_rfl) (by kernel_rfl) (EvP.r (by exact EvP.fa (e := 2) rfl Try.runUnderlying65 rfl Try.sizeOf62 rfl)) (l' := #[true, true, true, false, false, false, false, false]) rfl ?_
  refine TR.take 3 rfl (by kernel_rfl) (by kernel_rfl) (by kernel_rfl) (EvR.load rfl Try.isAgg62 (AtB.own' (by repeat (first | exact Has.hd | refine Has.tlb ?_ | refine Has.tlc ?_))) (by rfl)) (l' := #[true, true, true, true, false, false, false, false]) rfl ?_
  refine TR.take 4 rfl (by kernel_rfl) (by kernel_rfl) (by kernel_rfl) (EvR.loadN (vs := [_, _]) rfl Try.isAgg77 Try.sizeOf77 (AtB.own' (by repeat (first | exact Has.hd | refine Has.tlb ?_ | refine Has.tlc ?_))) (by exact ⟨rfl, rfl,  trivial⟩)) (l' := #[true, true, true, true, true, false, false, false]) rfl ?_
  refine TR.take 5 rfl (by kernel_rfl) (by kernel_rfl) (by kernel_rfl) (EvR.lookupY kPr (k := (min a b, max a b)) Try.runUnderlying62 Try.zeroValue2 hv rfl rfl (AtB.own' (by repeat (first | exact Has.hd | refine Has.tlb ?_ | refine Has.tlc ?_)))) (l' := #[true, true, true, true, true, true, false, false]) rfl ?_
  refine TR.take 6 rfl (by kernel_rfl) (by kernel_rfl) (by kernel_rfl) (EvP.r (by exact EvP.isT (EvP.ne rfl rfl) (hn))) (l' := #[true, true, true, true, true, true, true, false]) rfl ?_
  refine TR.take 7 rfl (by kernel_rfl) (by kernel_rfl) (by kernel_rfl) (EvP.r (by exact EvP.assign rfl)) (l' := #[true, true, true, true, true, true, true, true]) rfl ?_
  refine TR.done (by kernel_rfl) ?_
  refine TX.thenN rfl rfl ?_
  refine TC.ctrue rfl ?_
  refine TC.seq ?_
  refine TC.region ?_
  refine TL.p (EvP.assign rfl) ?_
  refine TL.nil ?_
  refine TX.thenN rfl rfl ?_
  refine TC.ret ?_
  refine TX.blkR ?_
  refine TX.thenR ?_
  refine TX.done rfl (Res.one rfl rfl) (fun w hs => Post0.mk hs ?_ (by repeat (first | exact Le.refl _ | exact Le.nil _ | refine Le.hit ?_ | refine Le.hit1 ?_ | refine Le.hit2 ?_ | refine Le.hit3 ?_ | refine Le.hit4 ?_ | refine Le.hit5 ?_ | refine Le.hit6 ?_ | refine Le.hit7 ?_ | refine Le.hit8 ?_ | refine Le.hit9 ?_ | refine Le.hit10 ?_ | refine Le.skip ?_)))
  rfl

theorem link_full {w0 w : World} {R : List Chunk} {g mb ml mr : Nat} {n : Int} {eb : List (Ent Int)} {cb : Nat} {el : List (Ent (Int × Int))} {cl : Nat} {er : List (Ent Int)} {cr : Nat} {a b : Int} (hok : okTwo a b = true) (hv : valOf (min a b, max a b) el = none) (hf : 1024 ≤ eb.length) (hst : St w0 w ([(g, .cells [.map (some mb), .int .i64 n, .map (some ml), .map (some mr)].toArray 65 (0, 0))] :: [(mb, mapObj kI eb cb)] :: [(ml, mapObj kP el cl)] :: [(mr, mapObj kI er cr)] :: R)) : Calls Try.prog 30 #[.pointer (some ⟨g, 0, none⟩), .int .i64 a, .int .i64 b] w (Post0 w0 ([(g, .cells [.map (some mb), .int .i64 n, .map (some ml), .map (some mr)].toArray 65 (0, 0))] :: [(mb, mapObj kI eb cb)] :: [(ml, mapObj kP el cl)] :: [(mr, mapObj kI er cr)] :: R) fun u => u = .int .i64 8) := by
  refine calls_of (args := [_, _, _]) Try.func30 rfl Try.ntmps30 hst ?_
  refine TC.seq ?_
  refine TC.region ?_
  refine TL.p (EvP.assign rfl) ?_
  refine TL.nil ?_
  refine TX.thenN rfl rfl ?_
  refine TC.seq ?_
  refine TC.seq ?_
  refine TC.region ?_
  refine TL.p (EvP.move rfl) ?_
  refine TL.p (EvP.move rfl) ?_
  refine TL.p (EvP.move rfl) ?_
  refine TL.callA rfl rfl Try.call49 (fun w hs => two_ok hok hs) ?_
  rintro _ rfl
  refine TL.p (EvP.assign rfl) ?_
  refine TL.nil ?_
  refine TX.thenN rfl rfl ?_
  refine TC.seq ?_
  refine TC.region ?_
  refine TL.p (EvP.move rfl) ?_
  refine TL.p (EvP.ne rfl rfl) ?_
  refine TL.nil ?_
  refine TX.thenN rfl rfl ?_
  refine TC.cfalse rfl ?_
  refine TC.skip ?_
  refine TX.thenN rfl rfl ?_
  refine TC.seq ?_
  refine TC.region ?_
  refine TL.p (EvP.move rfl) ?_
  refine TL.p (EvP.move rfl) ?_
  refine TL.callA rfl rfl Try.call45 (fun w hs => pairOf_spec a b hs) ?_
  rintro _ rfl
  refine TL.alloc Try.zeroValue77 rfl (fun b8 => ?_)
  refine TL.u (EvU.store rfl rfl Try.sizeOf77 rfl rfl rfl rfl (by repeat (first | exact Has.hd | refine Has.tlb ?_ | refine Has.tlc ?_)) (by repeat (first | exact SetLs.nil | exact SetL.here | apply SetLs.cons | apply SetL.there)) (by repeat (first | exact Upd.hd | apply Upd.tlb | apply Upd.tlc))) ?_
  refine TL.nil ?_
  refine TX.thenN rfl rfl ?_
  refine TC.seq ?_
  refine TC.block ?_
  refine TC.seq ?_
  refine TC.drawn (listed := #[false, false, false, false, false, false, false, false]) 8 (SH w0 [[(g, .cells [.map (some mb), .int .i64 n, .map (some ml), .map (some mr)].toArray 65 (0, 0))], [(ml, mapObj kP el cl)], [(b8, .cells [.int .i64 (min a b), .int .i64 (max a b)].toArray 77 (0, 0))]]) rfl rfl rfl rfl (fun w hs => SH.of hs (by repeat (first | exact Le.refl _ | exact Le.nil _ | refine Le.hit ?_ | refine Le.hit1 ?_ | refine Le.hit2 ?_ | refine Le.hit3 ?_ | refine Le.hit4 ?_ | refine Le.hit5 ?_ | refine Le.hit6 ?_ | refine Le.hit7 ?_ | refine Le.hit8 ?_ | refine Le.hit9 ?_ | refine Le.hit10 ?_ | refine Le.skip ?_))) ?_
  refine TR.take 0 rfl (by kernel_rfl) (by kernel_rfl) (by kernel_rfl) (EvP.r (by exact EvP.move rfl)) (l' := #[true, false, false, false, false, false, false, false]) rfl ?_
  refine TR.take 1 rfl (by kernel_rfl) (by kernel_rfl) (by kernel_rfl) (EvP.r (by exact EvP.nilP rfl)) (l' := #[true, true, false, false, false, false, false, false]) rfl ?_
  refine TR.take 2 rfl (by kernel_rfl) (by kernel_rfl) (by kernel_rfl) (EvP.r (by exact EvP.fa (e := 2) rfl Try.runUnderlying65 rfl Try.sizeOf62 rfl)) (l' := #[true, true, true, false, false, false, false, false]) rfl ?_
  refine TR.take 3 rfl (by kernel_rfl) (by kernel_rfl) (by kernel_rfl) (EvR.load rfl Try.isAgg62 (AtB.own' (by repeat (first | exact Has.hd | refine Has.tlb ?_ | refine Has.tlc ?_))) (by rfl)) (l' := #[true, true, true, true, false, false, false, false]) rfl ?_
  refine TR.take 4 rfl (by kernel_rfl) (by kernel_rfl) (by kernel_rfl) (EvR.loadN (vs := [_, _]) rfl Try.isAgg77 Try.sizeOf77 (AtB.own' (by repeat (first | exact Has.hd | refine Has.tlb ?_ | refine Has.tlc ?_))) (by exact ⟨rfl, rfl,  trivial⟩)) (l' := #[true, true, true, true, true, false, false, false]) rfl ?_
  refine TR.take 5 rfl (by kernel_rfl) (by kernel_rfl) (by kernel_rfl) (EvR.lookupN kPr (k := (min a b, max a b)) Try.runUnderlying62 Try.zeroValue2 hv rfl rfl (AtB.own' (by repeat (first | exact Has.hd | refine Has.tlb ?_ | refine Has.tlc ?_)))) (l' := #[true, true, true, true, true, true, false, false]) rfl ?_
  refine TR.take 6 rfl (by kernel_rfl) (by kernel_rfl) (by kernel_rfl) (EvP.r (by exact EvP.ne rfl rfl)) (l' := #[true, true, true, true, true, true, true, false]) rfl ?_
  refine TR.take 7 rfl (by kernel_rfl) (by kernel_rfl) (by kernel_rfl) (EvP.r (by exact EvP.assign rfl)) (l' := #[true, true, true, true, true, true, true, true]) rfl ?_
  refine TR.done (by kernel_rfl) ?_
  refine TX.thenN rfl rfl ?_
  refine TC.cfalse rfl ?_
  refine TC.seq ?_
  refine TC.region ?_
  refine TL.p (EvP.move rfl) ?_
  refine TL.p (EvP.nilP rfl) ?_
  refine TL.p (EvP.fa (e := 0) rfl Try.runUnderlying65 rfl Try.sizeOf61 rfl) ?_
  refine TL.r (EvR.load rfl Try.isAgg61 (AtB.own (by repeat (first | exact Has.hd | refine Has.tlb ?_ | refine Has.tlc ?_))) (by rfl)) ?_
  refine TL.r (EvR.lenM (ke := kI) Try.runUnderlying61 rfl (AtB.own (by repeat (first | exact Has.hd | refine Has.tlb ?_ | refine Has.tlc ?_)))) ?_
  refine TL.p (EvP.isT (EvP.ge rfl rfl) (by omega)) ?_
  refine TL.p (EvP.assign rfl) ?_
  refine TL.nil ?_
  refine TX.thenN rfl rfl ?_
  refine TC.ctrue rfl ?_
  refine TC.seq ?_
  refine TC.region ?_
  refine TL.p (EvP.assign rfl) ?_
  refine TL.nil ?_
  refine TX.thenN rfl rfl ?_
  refine TC.ret ?_
  refine TX.blkR ?_
  refine TX.thenR ?_
  refine TX.done rfl (Res.one rfl rfl) (fun w hs => Post0.mk hs ?_ (by repeat (first | exact Le.refl _ | exact Le.nil _ | refine Le.hit ?_ | refine Le.hit1 ?_ | refine Le.hit2 ?_ | refine Le.hit3 ?_ | refine Le.hit4 ?_ | refine Le.hit5 ?_ | refine Le.hit6 ?_ | refine Le.hit7 ?_ | refine Le.hit8 ?_ | refine Le.hit9 ?_ | refine Le.hit10 ?_ | refine Le.skip ?_)))
  rfl

theorem link_new {w0 w : World} {R : List Chunk} {g mb ml mr : Nat} {n : Int} {eb : List (Ent Int)} {cb : Nat} {el : List (Ent (Int × Int))} {cl : Nat} {er : List (Ent Int)} {cr : Nat} {a b : Int} (hok : okTwo a b = true) (hv : valOf (min a b, max a b) el = none) (hf : ¬1024 ≤ eb.length) (h0 : 0 ≤ n) (h1 : n < 9223372036854775807) (hnx : valOf (n + 1) eb = none) (hst : St w0 w ([(g, .cells [.map (some mb), .int .i64 n, .map (some ml), .map (some mr)].toArray 65 (0, 0))] :: [(mb, mapObj kI eb cb)] :: [(ml, mapObj kP el cl)] :: [(mr, mapObj kI er cr)] :: R)) : Calls Try.prog 30 #[.pointer (some ⟨g, 0, none⟩), .int .i64 a, .int .i64 b] w (Post0 w0 ([(g, .cells [.map (some mb), .int .i64 (n + 1), .map (some ml), .map (some mr)].toArray 65 (0, 0))] :: [(mb, mapObj kI (eb ++ [(n + 1, (pairB a b).v, cb)]) (cb + 1))] :: [(ml, mapObj kP (el ++ [((min a b, max a b), .int .i64 (n + 1), cl)]) (cl + 1))] :: [(mr, mapObj kI er cr)] :: R) fun u => u = .int .i64 0) := by
  refine calls_of (args := [_, _, _]) Try.func30 rfl Try.ntmps30 hst ?_
  refine TC.seq ?_
  refine TC.region ?_
  refine TL.p (EvP.assign rfl) ?_
  refine TL.nil ?_
  refine TX.thenN rfl rfl ?_
  refine TC.seq ?_
  refine TC.seq ?_
  refine TC.region ?_
  refine TL.p (EvP.move rfl) ?_
  refine TL.p (EvP.move rfl) ?_
  refine TL.p (EvP.move rfl) ?_
  refine TL.callA rfl rfl Try.call49 (fun w hs => two_ok hok hs) ?_
  rintro _ rfl
  refine TL.p (EvP.assign rfl) ?_
  refine TL.nil ?_
  refine TX.thenN rfl rfl ?_
  refine TC.seq ?_
  refine TC.region ?_
  refine TL.p (EvP.move rfl) ?_
  refine TL.p (EvP.ne rfl rfl) ?_
  refine TL.nil ?_
  refine TX.thenN rfl rfl ?_
  refine TC.cfalse rfl ?_
  refine TC.skip ?_
  refine TX.thenN rfl rfl ?_
  refine TC.seq ?_
  refine TC.region ?_
  refine TL.p (EvP.move rfl) ?_
  refine TL.p (EvP.move rfl) ?_
  refine TL.callA rfl rfl Try.call45 (fun w hs => pairOf_spec a b hs) ?_
  rintro _ rfl
  refine TL.alloc Try.zeroValue77 rfl (fun b8 => ?_)
  refine TL.u (EvU.store rfl rfl Try.sizeOf77 rfl rfl rfl rfl (by repeat (first | exact Has.hd | refine Has.tlb ?_ | refine Has.tlc ?_)) (by repeat (first | exact SetLs.nil | exact SetL.here | apply SetLs.cons | apply SetL.there)) (by repeat (first | exact Upd.hd | apply Upd.tlb | apply Upd.tlc))) ?_
  refine TL.nil ?_
  refine TX.thenN rfl rfl ?_
  refine TC.seq ?_
  refine TC.block ?_
  refine TC.seq ?_
  refine TC.drawn (listed := #[false, false, false, false, false, false, false, false]) 8 (SH w0 [[(g, .cells [.map (some mb), .int .i64 n, .map (some ml), .map (some mr)].toArray 65 (0, 0))], [(ml, mapObj kP el cl)], [(b8, .cells [.int .i64 (min a b), .int .i64 (max a b)].toArray 77 (0, 0))]]) rfl rfl rfl rfl (fun w hs => SH.of hs (by repeat (first | exact Le.refl _ | exact Le.nil _ | refine Le.hit ?_ | refine Le.hit1 ?_ | refine Le.hit2 ?_ | refine Le.hit3 ?_ | refine Le.hit4 ?_ | refine Le.hit5 ?_ | refine Le.hit6 ?_ | refine Le.hit7 ?_ | refine Le.hit8 ?_ | refine Le.hit9 ?_ | refine Le.hit10 ?_ | refine Le.skip ?_))) ?_
  refine TR.take 0 rfl (by kernel_rfl) (by kernel_rfl) (by kernel_rfl) (EvP.r (by exact EvP.move rfl)) (l' := #[true, false, false, false, false, false, false, false]) rfl ?_
  refine TR.take 1 rfl (by kernel_rfl) (by kernel_rfl) (by kernel_rfl) (EvP.r (by exact EvP.nilP rfl)) (l' := #[true, true, false, false, false, false, false, false]) rfl ?_
  refine TR.take 2 rfl (by kernel_rfl) (by kernel_rfl) (by kernel_rfl) (EvP.r (by exact EvP.fa (e := 2) rfl Try.runUnderlying65 rfl Try.sizeOf62 rfl)) (l' := #[true, true, true, false, false, false, false, false]) rfl ?_
  refine TR.take 3 rfl (by kernel_rfl) (by kernel_rfl) (by kernel_rfl) (EvR.load rfl Try.isAgg62 (AtB.own' (by repeat (first | exact Has.hd | refine Has.tlb ?_ | refine Has.tlc ?_))) (by rfl)) (l' := #[true, true, true, true, false, false, false, false]) rfl ?_
  refine TR.take 4 rfl (by kernel_rfl) (by kernel_rfl) (by kernel_rfl) (EvR.loadN (vs := [_, _]) rfl Try.isAgg77 Try.sizeOf77 (AtB.own' (by repeat (first | exact Has.hd | refine Has.tlb ?_ | refine Has.tlc ?_))) (by exact ⟨rfl, rfl,  trivial⟩)) (l' := #[true, true, true, true, true, false, false, false]) rfl ?_
  refine TR.take 5 rfl (by kernel_rfl) (by kernel_rfl) (by kernel_rfl) (EvR.lookupN kPr (k := (min a b, max a b)) Try.runUnderlying62 Try.zeroValue2 hv rfl rfl (AtB.own' (by repeat (first | exact Has.hd | refine Has.tlb ?_ | refine Has.tlc ?_)))) (l' := #[true, true, true, true, true, true, false, false]) rfl ?_
  refine TR.take 6 rfl (by kernel_rfl) (by kernel_rfl) (by kernel_rfl) (EvP.r (by exact EvP.ne rfl rfl)) (l' := #[true, true, true, true, true, true, true, false]) rfl ?_
  refine TR.take 7 rfl (by kernel_rfl) (by kernel_rfl) (by kernel_rfl) (EvP.r (by exact EvP.assign rfl)) (l' := #[true, true, true, true, true, true, true, true]) rfl ?_
  refine TR.done (by kernel_rfl) ?_
  refine TX.thenN rfl rfl ?_
  refine TC.cfalse rfl ?_
  refine TC.seq ?_
  refine TC.region ?_
  refine TL.p (EvP.move rfl) ?_
  refine TL.p (EvP.nilP rfl) ?_
  refine TL.p (EvP.fa (e := 0) rfl Try.runUnderlying65 rfl Try.sizeOf61 rfl) ?_
  refine TL.r (EvR.load rfl Try.isAgg61 (AtB.own (by repeat (first | exact Has.hd | refine Has.tlb ?_ | refine Has.tlc ?_))) (by rfl)) ?_
  refine TL.r (EvR.lenM (ke := kI) Try.runUnderlying61 rfl (AtB.own (by repeat (first | exact Has.hd | refine Has.tlb ?_ | refine Has.tlc ?_)))) ?_
  refine TL.p (EvP.isF (EvP.ge rfl rfl) (by omega)) ?_
  refine TL.p (EvP.assign rfl) ?_
  refine TL.nil ?_
  refine TX.thenN rfl rfl ?_
  refine TC.cfalse rfl ?_
  refine TC.skip ?_
  refine TX.blkN ?_
  refine TX.thenN rfl rfl ?_
  refine TC.seq ?_
  refine TC.drawn (listed := #[false, false, false, false, false, false, false, false, false, false, false, false, false]) 13 (SG w0 g mb ml mr [[(b8, .cells [.int .i64 (min a b), .int .i64 (max a b)].toArray 77 (0, 0))]]) rfl rfl rfl rfl (fun w hs => SG.of hs (by repeat (first | exact Has.hd | refine Has.tlb ?_ | refine Has.tlc ?_)) (by repeat (first | exact Le.refl _ | exact Le.nil _ | refine Le.hit ?_ | refine Le.hit1 ?_ | refine Le.hit2 ?_ | refine Le.hit3 ?_ | refine Le.hit4 ?_ | refine Le.hit5 ?_ | refine Le.hit6 ?_ | refine Le.hit7 ?_ | refine Le.hit8 ?_ | refine Le.hit9 ?_ | refine Le.hit10 ?_ | refine Le.skip ?_))) ?_
  refine TR.take 0 rfl (by kernel_rfl) (by kernel_rfl) (by kernel_rfl) (EvP.r (by exact EvP.move rfl)) (l' := #[true, false, false, false, false, false, false, false, false, false, false, false, false]) rfl ?_
  refine TR.take 1 rfl (by kernel_rfl) (by kernel_rfl) (by kernel_rfl) (EvP.r (by exact EvP.nilP rfl)) (l' := #[true, true, false, false, false, false, false, false, false, false, false, false, false]) rfl ?_
  refine TR.take 2 rfl (by kernel_rfl) (by kernel_rfl) (by kernel_rfl) (EvP.r (by exact EvP.fa (e := 2) rfl Try.runUnderlying65 rfl Try.sizeOf62 rfl)) (l' := #[true, true, true, false, false, false, false, false, false, false, false, false, false]) rfl ?_
  refine TR.take 3 rfl (by kernel_rfl) (by kernel_rfl) (by kernel_rfl) (EvR.loadS rfl Try.isAgg62 (by exact SG.c2)) (l' := #[true, true, true, true, false, false, false, false, false, false, false, false, false]) rfl ?_
  refine TR.take 4 rfl (by kernel_rfl) (by kernel_rfl) (by kernel_rfl) (EvR.loadN (vs := [_, _]) rfl Try.isAgg77 Try.sizeOf77 (AtB.ownG (by repeat (first | exact Has.hd | refine Has.tlb ?_ | refine Has.tlc ?_))) (by exact ⟨rfl, rfl,  trivial⟩)) (l' := #[true, true, true, true, true, false, false, false, false, false, false, false, false]) rfl ?_
  refine TR.take 5 rfl (by kernel_rfl) (by kernel_rfl) (by kernel_rfl) (EvP.r (by exact EvP.move rfl)) (l' := #[true, true, true, true, true, true, false, false, false, false, false, false, false]) rfl ?_
  refine TR.take 6 rfl (by kernel_rfl) (by kernel_rfl) (by kernel_rfl) (EvP.r (by exact EvP.fa (e := 0) rfl Try.runUnderlying77 rfl Try.sizeOf2 rfl)) (l' := #[true, true, true, true, true, true, true, false, false, false, false, false, false]) rfl ?_
  refine TR.take 7 rfl (by kernel_rfl) (by kernel_rfl) (by kernel_rfl) (EvR.load rfl Try.isAgg2 (AtB.ownG (by repeat (first | exact Has.hd | refine Has.tlb ?_ | refine Has.tlc ?_))) (by rfl)) (l' := #[true, true, true, true, true, true, true, true, false, false, false, false, false]) rfl ?_
  refine TR.take 8 rfl (by kernel_rfl) (by kernel_rfl) (by kernel_rfl) (EvP.r (by exact EvP.fa (e := 1) rfl Try.runUnderlying77 rfl Try.sizeOf2 rfl)) (l' := #[true, true, true, true, true, true, true, true, true, false, false, false, false]) rfl ?_
  refine TR.take 9 rfl (by kernel_rfl) (by kernel_rfl) (by kernel_rfl) (EvR.load rfl Try.isAgg2 (AtB.ownG (by repeat (first | exact Has.hd | refine Has.tlb ?_ | refine Has.tlc ?_))) (by rfl)) (l' := #[true, true, true, true, true, true, true, true, true, true, false, false, false]) rfl ?_
  refine TR.take 10 rfl (by kernel_rfl) (by kernel_rfl) (by kernel_rfl) (EvP.r (by exact EvP.buildS (is := [0, 1]) (xs := [_, _]) rfl Try.runUnderlying48 Try.zeroValue48 rfl (.cons Try.sizeOf2 (.cons Try.sizeOf2 (.cons Try.sizeOf2 .nil))) rfl rfl rfl)) (l' := #[true, true, true, true, true, true, true, true, true, true, true, false, false]) rfl ?_
  refine TR.one (i := 11) (by kernel_rfl) ?_
  refine TRi.le (Le.hit1 (Le.hit1 (Le.refl _))) ?_
  refine TRi.call rfl rfl rfl Try.call33 (fun w hs => put_raw (pairB a b) h0 h1 hnx hs) (l' := #[true, true, true, true, true, true, true, true, true, true, true, true, false]) rfl ?_
  rintro _ _ ⟨rfl, rfl⟩
  refine ⟨fun w hs => SG.of hs (by repeat (first | exact Has.hd | refine Has.tlb ?_ | refine Has.tlc ?_)) (by repeat (first | exact Le.refl _ | exact Le.nil _ | refine Le.hit ?_ | refine Le.hit1 ?_ | refine Le.hit2 ?_ | refine Le.hit3 ?_ | refine Le.hit4 ?_ | refine Le.hit5 ?_ | refine Le.hit6 ?_ | refine Le.hit7 ?_ | refine Le.hit8 ?_ | refine Le.hit9 ?_ | refine Le.hit10 ?_ | refine Le.skip ?_)), ?_⟩
  refine TR.one (i := 12) (by kernel_rfl) ?_
  refine TRi.u rfl (EvU.putNew kPr (k := (min a b, max a b)) Try.runUnderlying62 rfl rfl rfl hv (by repeat (first | exact Upd.hd | apply Upd.tlb | apply Upd.tlc))) (fun w hs => SG.of hs (by repeat (first | exact Has.hd | refine Has.tlb ?_ | refine Has.tlc ?_)) (by repeat (first | exact Le.refl _ | exact Le.nil _ | refine Le.hit ?_ | refine Le.hit1 ?_ | refine Le.hit2 ?_ | refine Le.hit3 ?_ | refine Le.hit4 ?_ | refine Le.hit5 ?_ | refine Le.hit6 ?_ | refine Le.hit7 ?_ | refine Le.hit8 ?_ | refine Le.hit9 ?_ | refine Le.hit10 ?_ | refine Le.skip ?_))) (l' := #[true, true, true, true, true, true, true, true, true, true, true, true, true]) rfl ?_
  refine TR.done (by kernel_rfl) ?_
  refine TX.thenN rfl rfl ?_
  refine TC.seq ?_
  refine TC.region ?_
  refine TL.p (EvP.assign rfl) ?_
  refine TL.nil ?_
  refine TX.thenN rfl rfl ?_
  refine TC.ret ?_
  refine TX.done rfl (Res.one rfl rfl) (fun w hs => Post0.mk hs ?_ (by repeat (first | exact Le.refl _ | exact Le.nil _ | refine Le.hit ?_ | refine Le.hit1 ?_ | refine Le.hit2 ?_ | refine Le.hit3 ?_ | refine Le.hit4 ?_ | refine Le.hit5 ?_ | refine Le.hit6 ?_ | refine Le.hit7 ?_ | refine Le.hit8 ?_ | refine Le.hit9 ?_ | refine Le.hit10 ?_ | refine Le.skip ?_)))
  rfl

theorem unlink_bad {w0 w : World} {R : List Chunk} {g mb ml mr : Nat} {n : Int} {eb : List (Ent Int)} {cb : Nat} {el : List (Ent (Int × Int))} {cl : Nat} {er : List (Ent Int)} {cr : Nat} {a b : Int} (hok : okTwo a b = false) (hst : St w0 w ([(g, .cells [.map (some mb), .int .i64 n, .map (some ml), .map (some mr)].toArray 65 (0, 0))] :: [(mb, mapObj kI eb cb)] :: [(ml, mapObj kP el cl)] :: [(mr, mapObj kI er cr)] :: R)) : Calls Try.prog 31 #[.pointer (some ⟨g, 0, none⟩), .int .i64 a, .int .i64 b] w (Post0 w0 ([(g, .cells [.map (some mb), .int .i64 n, .map (some ml), .map (some mr)].toArray 65 (0, 0))] :: [(mb, mapObj kI eb cb)] :: [(ml, mapObj kP el cl)] :: [(mr, mapObj kI er cr)] :: R) fun u => u = .int .i64 1) := by
  refine calls_of (args := [_, _, _]) Try.func31 rfl Try.ntmps31 hst ?_
  refine TC.seq ?_
  refine TC.region ?_
  refine TL.p (EvP.assign rfl) ?_
  refine TL.nil ?_
  refine TX.thenN rfl rfl ?_
  refine TC.seq ?_
  refine TC.seq ?_
  refine TC.region ?_
  refine TL.p (EvP.move rfl) ?_
  refine TL.p (EvP.move rfl) ?_
  refine TL.p (EvP.move rfl) ?_
  refine TL.callA rfl rfl Try.call49 (fun w hs => two_bad hok hs) ?_
  rintro _ rfl
  refine TL.p (EvP.assign rfl) ?_
  refine TL.nil ?_
  refine TX.thenN rfl rfl ?_
  refine TC.seq ?_
  refine TC.region ?_
  refine TL.p (EvP.move rfl) ?_
  refine TL.p (EvP.ne rfl rfl) ?_
  refine TL.nil ?_
  refine TX.thenN rfl rfl ?_
  refine TC.ctrue rfl ?_
  refine TC.seq ?_
  refine TC.region ?_
  refine TL.p (EvP.move rfl) ?_
  refine TL.p (EvP.assign rfl) ?_
  refine TL.nil ?_
  refine TX.thenN rfl rfl ?_
  refine TC.ret ?_
  refine TX.thenR ?_
  refine TX.done rfl (Res.one rfl rfl) (fun w hs => Post0.mk hs ?_ (by repeat (first | exact Le.refl _ | exact Le.nil _ | refine Le.hit ?_ | refine Le.hit1 ?_ | refine Le.hit2 ?_ | refine Le.hit3 ?_ | refine Le.hit4 ?_ | refine Le.hit5 ?_ | refine Le.hit6 ?_ | refine Le.hit7 ?_ | refine Le.hit8 ?_ | refine Le.hit9 ?_ | refine Le.hit10 ?_ | refine Le.skip ?_)))
  rfl

theorem unlink_no {w0 w : World} {R : List Chunk} {g mb ml mr : Nat} {n : Int} {eb : List (Ent Int)} {cb : Nat} {el : List (Ent (Int × Int))} {cl : Nat} {er : List (Ent Int)} {cr : Nat} {a b : Int} (hok : okTwo a b = true) (hv : valOf (min a b, max a b) el = none) (hst : St w0 w ([(g, .cells [.map (some mb), .int .i64 n, .map (some ml), .map (some mr)].toArray 65 (0, 0))] :: [(mb, mapObj kI eb cb)] :: [(ml, mapObj kP el cl)] :: [(mr, mapObj kI er cr)] :: R)) : Calls Try.prog 31 #[.pointer (some ⟨g, 0, none⟩), .int .i64 a, .int .i64 b] w (Post0 w0 ([(g, .cells [.map (some mb), .int .i64 n, .map (some ml), .map (some mr)].toArray 65 (0, 0))] :: [(mb, mapObj kI eb cb)] :: [(ml, mapObj kP el cl)] :: [(mr, mapObj kI er cr)] :: R) fun u => u = .int .i64 5) := by
  refine calls_of (args := [_, _, _]) Try.func31 rfl Try.ntmps31 hst ?_
  refine TC.seq ?_
  refine TC.region ?_
  refine TL.p (EvP.assign rfl) ?_
  refine TL.nil ?_
  refine TX.thenN rfl rfl ?_
  refine TC.seq ?_
  refine TC.seq ?_
  refine TC.region ?_
  refine TL.p (EvP.move rfl) ?_
  refine TL.p (EvP.move rfl) ?_
  refine TL.p (EvP.move rfl) ?_
  refine TL.callA rfl rfl Try.call49 (fun w hs => two_ok hok hs) ?_
  rintro _ rfl
  refine TL.p (EvP.assign rfl) ?_
  refine TL.nil ?_
  refine TX.thenN rfl rfl ?_
  refine TC.seq ?_
  refine TC.region ?_
  refine TL.p (EvP.move rfl) ?_
  refine TL.p (EvP.ne rfl rfl) ?_
  refine TL.nil ?_
  refine TX.thenN rfl rfl ?_
  refine TC.cfalse rfl ?_
  refine TC.skip ?_
  refine TX.thenN rfl rfl ?_
  refine TC.seq ?_
  refine TC.drawn (listed := #[false, false, false, false, false, false, false, false, false]) 9 (SH w0 [[(g, .cells [.map (some mb), .int .i64 n, .map (some ml), .map (some mr)].toArray 65 (0, 0))], [(ml, mapObj kP el cl)]]) rfl rfl rfl rfl (fun w hs => SH.of hs (by repeat (first | exact Le.refl _ | exact Le.nil _ | refine Le.hit ?_ | refine Le.hit1 ?_ | refine Le.hit2 ?_ | refine Le.hit3 ?_ | refine Le.hit4 ?_ | refine Le.hit5 ?_ | refine Le.hit6 ?_ | refine Le.hit7 ?_ | refine Le.hit8 ?_ | refine Le.hit9 ?_ | refine Le.hit10 ?_ | refine Le.skip ?_))) ?_
  refine TR.take 0 rfl (by kernel_rfl) (by kernel_rfl) (by kernel_rfl) (EvP.r (by exact EvP.move rfl)) (l' := #[true, false, false, false, false, false, false, false, false]) rfl ?_
  refine TR.take 1 rfl (by kernel_rfl) (by kernel_rfl) (by kernel_rfl) (EvP.r (by exact EvP.nilP rfl)) (l' := #[true, true, false, false, false, false, false, false, false]) rfl ?_
  refine TR.take 2 rfl (by kernel_rfl) (by kernel_rfl) (by kernel_rfl) (EvP.r (by exact EvP.fa (e := 2) rfl Try.runUnderlying65 rfl Try.sizeOf62 rfl)) (l' := #[true, true, true, false, false, false, false, false, false]) rfl ?_
  refine TR.take 3 rfl (by kernel_rfl) (by kernel_rfl) (by kernel_rfl) (EvR.load rfl Try.isAgg62 (AtB.own' (by repeat (first | exact Has.hd | refine Has.tlb ?_ | refine Has.tlc ?_))) (by rfl)) (l' := #[true, true, true, true, false, false, false, false, false]) rfl ?_
  refine TR.take 4 rfl (by kernel_rfl) (by kernel_rfl) (by kernel_rfl) (EvP.r (by exact EvP.move rfl)) (l' := #[true, true, true, true, true, false, false, false, false]) rfl ?_
  refine TR.take 5 rfl (by kernel_rfl) (by kernel_rfl) (by kernel_rfl) (EvP.r (by exact EvP.move rfl)) (l' := #[true, true, true, true, true, true, false, false, false]) rfl ?_
  refine TR.one (i := 6) (by kernel_rfl) ?_
  refine TRi.call rfl rfl rfl Try.call45 (fun w hs => pairOf_spec a b hs) (l' := #[true, true, true, true, true, true, true, false, false]) rfl ?_
  rintro _ _ ⟨rfl, rfl⟩
  refine ⟨fun w hs => SH.of hs (by repeat (first | exact Le.refl _ | exact Le.nil _ | refine Le.hit ?_ | refine Le.hit1 ?_ | refine Le.hit2 ?_ | refine Le.hit3 ?_ | refine Le.hit4 ?_ | refine Le.hit5 ?_ | refine Le.hit6 ?_ | refine Le.hit7 ?_ | refine Le.hit8 ?_ | refine Le.hit9 ?_ | refine Le.hit10 ?_ | refine Le.skip ?_)), ?_⟩
  refine TR.take 7 rfl (by kernel_rfl) (by kernel_rfl) (by kernel_rfl) (EvR.lookupN kPr (k := (min a b, max a b)) Try.runUnderlying62 Try.zeroValue2 hv rfl rfl (AtB.own' (by repeat (first | exact Has.hd | refine Has.tlb ?_ | refine Has.tlc ?_)))) (l' := #[true, true, true, true, true, true, true, true, false]) rfl ?_
  refine TR.take 8 rfl (by kernel_rfl) (by kernel_rfl) (by kernel_rfl) (EvP.r (by exact EvP.assign rfl)) (l' := #[true, true, true, true, true, true, true, true, true]) rfl ?_
  refine TR.done (by kernel_rfl) ?_
  refine TX.thenN rfl rfl ?_
  refine TC.seq ?_
  refine TC.seq ?_
  refine TC.region ?_
  refine TL.p (EvP.move rfl) ?_
  refine TL.p (EvP.eq rfl rfl) ?_
  refine TL.nil ?_
  refine TX.thenN rfl rfl ?_
  refine TC.ctrue rfl ?_
  refine TC.seq ?_
  refine TC.region ?_
  refine TL.p (EvP.assign rfl) ?_
  refine TL.nil ?_
  refine TX.thenN rfl rfl ?_
  refine TC.ret ?_
  refine TX.thenR ?_
  refine TX.done rfl (Res.one rfl rfl) (fun w hs => Post0.mk hs ?_ (by repeat (first | exact Le.refl _ | exact Le.nil _ | refine Le.hit ?_ | refine Le.hit1 ?_ | refine Le.hit2 ?_ | refine Le.hit3 ?_ | refine Le.hit4 ?_ | refine Le.hit5 ?_ | refine Le.hit6 ?_ | refine Le.hit7 ?_ | refine Le.hit8 ?_ | refine Le.hit9 ?_ | refine Le.hit10 ?_ | refine Le.skip ?_)))
  rfl

theorem unlink_yes {w0 w : World} {R : List Chunk} {g mb ml mr : Nat} {n : Int} {eb : List (Ent Int)} {cb : Nat} {el : List (Ent (Int × Int))} {cl : Nat} {er : List (Ent Int)} {cr : Nat} {a b num : Int} {c : Bond} (hok : okTwo a b = true) (hv : valOf (min a b, max a b) el = some (.int .i64 num)) (hn : ¬num = 0) (hb : valOf num eb = some c.v) (hr : c.r = 0) (hst : St w0 w ([(g, .cells [.map (some mb), .int .i64 n, .map (some ml), .map (some mr)].toArray 65 (0, 0))] :: [(mb, mapObj kI eb cb)] :: [(ml, mapObj kP el cl)] :: [(mr, mapObj kI er cr)] :: R)) : Calls Try.prog 31 #[.pointer (some ⟨g, 0, none⟩), .int .i64 a, .int .i64 b] w (Post0 w0 ([(g, .cells [.map (some mb), .int .i64 n, .map (some ml), .map (some mr)].toArray 65 (0, 0))] :: [(mb, mapObj kI (delE num eb) cb)] :: [(ml, mapObj kP (delE (c.f, c.t) el) cl)] :: [(mr, mapObj kI er cr)] :: R) fun u => u = .int .i64 0) := by
  refine calls_of (args := [_, _, _]) Try.func31 rfl Try.ntmps31 hst ?_
  refine TC.seq ?_
  refine TC.region ?_
  refine TL.p (EvP.assign rfl) ?_
  refine TL.nil ?_
  refine TX.thenN rfl rfl ?_
  refine TC.seq ?_
  refine TC.seq ?_
  refine TC.region ?_
  refine TL.p (EvP.move rfl) ?_
  refine TL.p (EvP.move rfl) ?_
  refine TL.p (EvP.move rfl) ?_
  refine TL.callA rfl rfl Try.call49 (fun w hs => two_ok hok hs) ?_
  rintro _ rfl
  refine TL.p (EvP.assign rfl) ?_
  refine TL.nil ?_
  refine TX.thenN rfl rfl ?_
  refine TC.seq ?_
  refine TC.region ?_
  refine TL.p (EvP.move rfl) ?_
  refine TL.p (EvP.ne rfl rfl) ?_
  refine TL.nil ?_
  refine TX.thenN rfl rfl ?_
  refine TC.cfalse rfl ?_
  refine TC.skip ?_
  refine TX.thenN rfl rfl ?_
  refine TC.seq ?_
  refine TC.drawn (listed := #[false, false, false, false, false, false, false, false, false]) 9 (SH w0 [[(g, .cells [.map (some mb), .int .i64 n, .map (some ml), .map (some mr)].toArray 65 (0, 0))], [(ml, mapObj kP el cl)]]) rfl rfl rfl rfl (fun w hs => SH.of hs (by repeat (first | exact Le.refl _ | exact Le.nil _ | refine Le.hit ?_ | refine Le.hit1 ?_ | refine Le.hit2 ?_ | refine Le.hit3 ?_ | refine Le.hit4 ?_ | refine Le.hit5 ?_ | refine Le.hit6 ?_ | refine Le.hit7 ?_ | refine Le.hit8 ?_ | refine Le.hit9 ?_ | refine Le.hit10 ?_ | refine Le.skip ?_))) ?_
  refine TR.take 0 rfl (by kernel_rfl) (by kernel_rfl) (by kernel_rfl) (EvP.r (by exact EvP.move rfl)) (l' := #[true, false, false, false, false, false, false, false, false]) rfl ?_
  refine TR.take 1 rfl (by kernel_rfl) (by kernel_rfl) (by kernel_rfl) (EvP.r (by exact EvP.nilP rfl)) (l' := #[true, true, false, false, false, false, false, false, false]) rfl ?_
  refine TR.take 2 rfl (by kernel_rfl) (by kernel_rfl) (by kernel_rfl) (EvP.r (by exact EvP.fa (e := 2) rfl Try.runUnderlying65 rfl Try.sizeOf62 rfl)) (l' := #[true, true, true, false, false, false, false, false, false]) rfl ?_
  refine TR.take 3 rfl (by kernel_rfl) (by kernel_rfl) (by kernel_rfl) (EvR.load rfl Try.isAgg62 (AtB.own' (by repeat (first | exact Has.hd | refine Has.tlb ?_ | refine Has.tlc ?_))) (by rfl)) (l' := #[true, true, true, true, false, false, false, false, false]) rfl ?_
  refine TR.take 4 rfl (by kernel_rfl) (by kernel_rfl) (by kernel_rfl) (EvP.r (by exact EvP.move rfl)) (l' := #[true, true, true, true, true, false, false, false, false]) rfl ?_
  refine TR.take 5 rfl (by kernel_rfl) (by kernel_rfl) (by kernel_rfl) (EvP.r (by exact EvP.move rfl)) (l' := #[true, true, true, true, true, true, false, false, false]) rfl ?_
  refine TR.one (i := 6) (by kernel_rfl) ?_
  refine TRi.call rfl rfl rfl Try.call45 (fun w hs => pairOf_spec a b hs) (l' := #[true, true, true, true, true, true, true, false, false]) rfl ?_
  rintro _ _ ⟨rfl, rfl⟩
  refine ⟨fun w hs => SH.of hs (by repeat (first | exact Le.refl _ | exact Le.nil _ | refine Le.hit ?_ | refine Le.hit1 ?_ | refine Le.hit2 ?_ | refine Le.hit3 ?_ | refine Le.hit4 ?_ | refine Le.hit5 ?_ | refine Le.hit6 ?_ | refine Le.hit7 ?_ | refine Le.hit8 ?_ | refine Le.hit9 ?_ | refine Le.hit10 ?_ | refine Le.skip ?_)), ?_⟩
  refine TR.take 7 rfl (by kernel_rfl) (by kernel_rfl) (by kernel_rfl) (EvR.lookupY kPr (k := (min a b, max a b)) Try.runUnderlying62 Try.zeroValue2 hv rfl rfl (AtB.own' (by repeat (first | exact Has.hd | refine Has.tlb ?_ | refine Has.tlc ?_)))) (l' := #[true, true, true, true, true, true, true, true, false]) rfl ?_
  refine TR.take 8 rfl (by kernel_rfl) (by kernel_rfl) (by kernel_rfl) (EvP.r (by exact EvP.assign rfl)) (l' := #[true, true, true, true, true, true, true, true, true]) rfl ?_
  refine TR.done (by kernel_rfl) ?_
  refine TX.thenN rfl rfl ?_
  refine TC.seq ?_
  refine TC.seq ?_
  refine TC.region ?_
  refine TL.p (EvP.move rfl) ?_
  refine TL.p (EvP.isF (EvP.eq rfl rfl) (hn)) ?_
  refine TL.nil ?_
  refine TX.thenN rfl rfl ?_
  refine TC.cfalse rfl ?_
  refine TC.skip ?_
  refine TX.thenN rfl rfl ?_
  refine TC.seq ?_
  refine TC.region ?_
  refine TL.p (EvP.move rfl) ?_
  refine TL.p (EvP.move rfl) ?_
  refine TL.callA rfl rfl Try.call42 (fun w hs => out_raw0 hb hr hs) ?_
  rintro _ _
  refine TL.nil ?_
  refine TX.thenN rfl rfl ?_
  refine TC.seq ?_
  refine TC.region ?_
  refine TL.p (EvP.assign rfl) ?_
  refine TL.nil ?_
  refine TX.thenN rfl rfl ?_
  refine TC.ret ?_
  refine TX.done rfl (Res.one rfl rfl) (fun w hs => Post0.mk hs ?_ (by repeat (first | exact Le.refl _ | exact Le.nil _ | refine Le.hit ?_ | refine Le.hit1 ?_ | refine Le.hit2 ?_ | refine Le.hit3 ?_ | refine Le.hit4 ?_ | refine Le.hit5 ?_ | refine Le.hit6 ?_ | refine Le.hit7 ?_ | refine Le.hit8 ?_ | refine Le.hit9 ?_ | refine Le.hit10 ?_ | refine Le.skip ?_)))
  rfl

theorem pid_yes {w0 w : World} {R : List Chunk} {n : Int} (h : okPid n = true) (hst : St w0 w R) : Calls Try.prog 32 #[.int .i64 n] w (Post0 w0 R fun v => v = .bool true) := by
  have := isPid_spec n hst
  rwa [h] at this

theorem watch_bad {w0 w : World} {R : List Chunk} {g mb ml mr : Nat} {n : Int} {eb : List (Ent Int)} {cb : Nat} {el : List (Ent (Int × Int))} {cl : Nat} {er : List (Ent Int)} {cr : Nat} {r f t : Int} (hbad : (okRef r && okPid f && okPid t) = false) (hst : St w0 w ([(g, .cells [.map (some mb), .int .i64 n, .map (some ml), .map (some mr)].toArray 65 (0, 0))] :: [(mb, mapObj kI eb cb)] :: [(ml, mapObj kP el cl)] :: [(mr, mapObj kI er cr)] :: R)) : Calls Try.prog 11 #[.pointer (some ⟨g, 0, none⟩), .int .i64 r, .int .i64 f, .int .i64 t] w (Post0 w0 ([(g, .cells [.map (some mb), .int .i64 n, .map (some ml), .map (some mr)].toArray 65 (0, 0))] :: [(mb, mapObj kI eb cb)] :: [(ml, mapObj kP el cl)] :: [(mr, mapObj kI er cr)] :: R) fun u => u = .int .i64 1) := by
  refine calls_of (args := [_, _, _, _]) Try.func11 rfl Try.ntmps11 hst ?_
  refine TC.seq ?_
  refine TC.region ?_
  refine TL.p (EvP.assign rfl) ?_
  refine TL.nil ?_
  refine TX.thenN rfl rfl ?_
  refine TC.seq ?_
  refine TC.block ?_
  refine TC.seq ?_
  refine TC.region ?_
  refine TL.p (EvP.move rfl) ?_
  refine TL.p (EvP.eqPtrNil Try.runUnderlying24 rfl rfl) ?_
  refine TL.p (EvP.assign rfl) ?_
  refine TL.nil ?_
  refine TX.thenN rfl rfl ?_
  refine TC.cfalse rfl ?_
  refine TC.seq ?_
  refine TC.region ?_
  refine TL.p (EvP.move rfl) ?_
  refine TL.dec (EvP.lt rfl rfl) (fun h14 => ?_) (fun h14 => ?_)
  · refine TL.p (EvP.move rfl) ?_
    refine TL.gN rfl rfl rfl ?_
    refine TL.gN rfl rfl rfl ?_
    refine TL.p (EvP.pickT rfl rfl) ?_
    refine TL.p (EvP.move rfl) ?_
    refine TL.gN rfl rfl rfl ?_
    refine TL.gN rfl rfl rfl ?_
    refine TL.gN rfl rfl rfl ?_
    refine TL.p (EvP.pickT rfl rfl) ?_
    refine TL.p (EvP.move rfl) ?_
    refine TL.gN rfl rfl rfl ?_
    refine TL.gN rfl rfl rfl ?_
    refine TL.gN rfl rfl rfl ?_
    refine TL.p (EvP.pickT rfl rfl) ?_
    refine TL.p (EvP.assign rfl) ?_
    refine TL.nil ?_
    refine TX.thenN rfl rfl ?_
    refine TC.ctrue rfl ?_
    refine TC.seq ?_
    refine TC.region ?_
    refine TL.p (EvP.assign rfl) ?_
    refine TL.nil ?_
    refine TX.thenN rfl rfl ?_
    refine TC.ret ?_
    refine TX.blkR ?_
    refine TX.thenR ?_
    refine TX.done rfl (Res.one rfl rfl) (fun w hs => Post0.mk hs ?_ (by repeat (first | exact Le.refl _ | exact Le.nil _ | refine Le.hit ?_ | refine Le.hit1 ?_ | refine Le.hit2 ?_ | refine Le.hit3 ?_ | refine Le.hit4 ?_ | refine Le.hit5 ?_ | refine Le.hit6 ?_ | refine Le.hit7 ?_ | refine Le.hit8 ?_ | refine Le.hit9 ?_ | refine Le.hit10 ?_ | refine Le.skip ?_)))
    rfl
  · refine TL.p (EvP.move rfl) ?_
    refine TL.gY rfl rfl rfl ?_
    refine TL.p (EvP.move rfl) ?_
    refine TL.gY rfl rfl rfl ?_
    refine TL.dec (EvP.gt rfl rfl) (fun h17 => ?_) (fun h17 => ?_)
    · refine TL.p (EvP.pickF rfl rfl) ?_
      refine TL.p (EvP.move rfl) ?_
      refine TL.gN rfl rfl rfl ?_
      refine TL.gN rfl rfl rfl ?_
      refine TL.gN rfl rfl rfl ?_
      refine TL.p (EvP.pickT rfl rfl) ?_
      refine TL.p (EvP.move rfl) ?_
      refine TL.gN rfl rfl rfl ?_
      refine TL.gN rfl rfl rfl ?_
      refine TL.gN rfl rfl rfl ?_
      refine TL.p (EvP.pickT rfl rfl) ?_
      refine TL.p (EvP.assign rfl) ?_
      refine TL.nil ?_
      refine TX.thenN rfl rfl ?_
      refine TC.ctrue rfl ?_
      refine TC.seq ?_
      refine TC.region ?_
      refine TL.p (EvP.assign rfl) ?_
      refine TL.nil ?_
      refine TX.thenN rfl rfl ?_
      refine TC.ret ?_
      refine TX.blkR ?_
      refine TX.thenR ?_
      refine TX.done rfl (Res.one rfl rfl) (fun w hs => Post0.mk hs ?_ (by repeat (first | exact Le.refl _ | exact Le.nil _ | refine Le.hit ?_ | refine Le.hit1 ?_ | refine Le.hit2 ?_ | refine Le.hit3 ?_ | refine Le.hit4 ?_ | refine Le.hit5 ?_ | refine Le.hit6 ?_ | refine Le.hit7 ?_ | refine Le.hit8 ?_ | refine Le.hit9 ?_ | refine Le.hit10 ?_ | refine Le.skip ?_)))
      rfl
    · refine TL.p (EvP.pickF rfl rfl) ?_
      refine TL.p (EvP.move rfl) ?_
      refine TL.gY rfl rfl rfl ?_
      refine TL.p (EvP.move rfl) ?_
      refine TL.gY rfl rfl rfl ?_
      refine TL.callA rfl rfl Try.call32 (fun w hs => isPid_spec _ hs) ?_
      rintro _ rfl
      refine TL.gY rfl rfl rfl ?_
      refine TL.p (EvP.not rfl) ?_
      refine TL.p (EvP.pickF rfl rfl) ?_
      refine TL.p (EvP.move rfl) ?_
      refine TL.bsplit 24 rfl (fun h24 => ?_) (fun h24 => ?_)
      · refine TL.gN rfl rfl rfl ?_
        refine TL.gN rfl rfl rfl ?_
        refine TL.gN rfl rfl rfl ?_
        refine TL.p (EvP.pickT rfl rfl) ?_
        refine TL.p (EvP.assign rfl) ?_
        refine TL.nil ?_
        refine TX.thenN rfl rfl ?_
        refine TC.ctrue rfl ?_
        refine TC.seq ?_
        refine TC.region ?_
        refine TL.p (EvP.assign rfl) ?_
        refine TL.nil ?_
        refine TX.thenN rfl rfl ?_
        refine TC.ret ?_
        refine TX.blkR ?_
        refine TX.thenR ?_
        refine TX.done rfl (Res.one rfl rfl) (fun w hs => Post0.mk hs ?_ (by repeat (first | exact Le.refl _ | exact Le.nil _ | refine Le.hit ?_ | refine Le.hit1 ?_ | refine Le.hit2 ?_ | refine Le.hit3 ?_ | refine Le.hit4 ?_ | refine Le.hit5 ?_ | refine Le.hit6 ?_ | refine Le.hit7 ?_ | refine Le.hit8 ?_ | refine Le.hit9 ?_ | refine Le.hit10 ?_ | refine Le.skip ?_)))
        rfl
      · refine TL.gY rfl rfl rfl ?_
        refine TL.p (EvP.move rfl) ?_
        refine TL.gY rfl rfl rfl ?_
        refine TL.callA rfl rfl Try.call32 (fun w hs => isPid_spec _ hs) ?_
        rintro _ rfl
        refine TL.gY rfl rfl rfl ?_
        refine TL.p (EvP.not rfl) ?_
        refine TL.p (EvP.pickF rfl rfl) ?_
        refine TL.p (EvP.assign rfl) ?_
        refine TL.nil ?_
        refine TX.thenN rfl rfl ?_
        refine TC.cond rfl (fun h12 => ?_) (fun h12 => ?_)
        · refine TC.seq ?_
          refine TC.region ?_
          refine TL.p (EvP.assign rfl) ?_
          refine TL.nil ?_
          refine TX.thenN rfl rfl ?_
          refine TC.ret ?_
          refine TX.blkR ?_
          refine TX.thenR ?_
          refine TX.done rfl (Res.one rfl rfl) (fun w hs => Post0.mk hs ?_ (by repeat (first | exact Le.refl _ | exact Le.nil _ | refine Le.hit ?_ | refine Le.hit1 ?_ | refine Le.hit2 ?_ | refine Le.hit3 ?_ | refine Le.hit4 ?_ | refine Le.hit5 ?_ | refine Le.hit6 ?_ | refine Le.hit7 ?_ | refine Le.hit8 ?_ | refine Le.hit9 ?_ | refine Le.hit10 ?_ | refine Le.skip ?_)))
          rfl
        · refine TC.seq ?_
          refine TC.region ?_
          exfalso
          have hr : okRef r = true := by simp only [okRef, decide_eq_true_eq]; omega
          simp_all

theorem watch_dup {w0 w : World} {R : List Chunk} {g mb ml mr : Nat} {n : Int} {eb : List (Ent Int)} {cb : Nat} {el : List (Ent (Int × Int))} {cl : Nat} {er : List (Ent Int)} {cr : Nat} {r f t num : Int} (hr : 1 ≤ r ∧ r ≤ 281474976710656) (hf : okPid f = true) (ht : okPid t = true) (hv : valOf r er = some (.int .i64 num)) (hn : num ≠ 0) (hst : St w0 w ([(g, .cells [.map (some mb), .int .i64 n, .map (some ml), .map (some mr)].toArray 65 (0, 0))] :: [(mb, mapObj kI eb cb)] :: [(ml, mapObj kP el cl)] :: [(mr, mapObj kI er cr)] :: R)) : Calls Try.prog 11 #[.pointer (some ⟨g, 0, none⟩), .int .i64 r, .int .i64 f, .int .i64 t] w (Post0 w0 ([(g, .cells [.map (some mb), .int .i64 n, .map (some ml), .map (some mr)].toArray 65 (0, 0))] :: [(mb, mapObj kI eb cb)] :: [(ml, mapObj kP el cl)] :: [(mr, mapObj kI er cr)] :: R) fun u => u = .int .i64 6) := by
  refine calls_of (args := [_, _, _, _]) Try.func11 rfl Try.ntmps11 hst ?_
  refine TC.seq ?_
  refine TC.region ?_
  refine TL.p (EvP.assign rfl) ?_
  refine TL.nil ?_
  refine TX.thenN rfl rfl ?_
  refine TC.seq ?_
  refine TC.block ?_
  refine TC.seq ?_
  refine TC.region ?_
  refine TL.p (EvP.move rfl) ?_
  refine TL.p (EvP.eqPtrNil Try.runUnderlying24 rfl rfl) ?_
  refine TL.p (EvP.assign rfl) ?_
  refine TL.nil ?_
  refine TX.thenN rfl rfl ?_
  refine TC.cfalse rfl ?_
  refine TC.seq ?_
  refine TC.region ?_
  refine TL.p (EvP.move rfl) ?_
  refine TL.p (EvP.isF (EvP.lt rfl rfl) (by omega)) ?_
  refine TL.p (EvP.move rfl) ?_
  refine TL.gY rfl rfl rfl ?_
  refine TL.p (EvP.move rfl) ?_
  refine TL.gY rfl rfl rfl ?_
  refine TL.p (EvP.isF (EvP.gt rfl rfl) (by omega)) ?_
  refine TL.p (EvP.pickF rfl rfl) ?_
  refine TL.p (EvP.move rfl) ?_
  refine TL.gY rfl rfl rfl ?_
  refine TL.p (EvP.move rfl) ?_
  refine TL.gY rfl rfl rfl ?_
  refine TL.callA rfl rfl Try.call32 (fun w hs => pid_yes hf hs) ?_
  rintro _ rfl
  refine TL.gY rfl rfl rfl ?_
  refine TL.p (EvP.not rfl) ?_
  refine TL.p (EvP.pickF rfl rfl) ?_
  refine TL.p (EvP.move rfl) ?_
  refine TL.gY rfl rfl rfl ?_
  refine TL.p (EvP.move rfl) ?_
  refine TL.gY rfl rfl rfl ?_
  refine TL.callA rfl rfl Try.call32 (fun w hs => pid_yes ht hs) ?_
  rintro _ rfl
  refine TL.gY rfl rfl rfl ?_
  refine TL.p (EvP.not rfl) ?_
  refine TL.p (EvP.pickF rfl rfl) ?_
  refine TL.p (EvP.assign rfl) ?_
  refine TL.nil ?_
  refine TX.thenN rfl rfl ?_
  refine TC.cfalse rfl ?_
  refine TC.seq ?_
  refine TC.region ?_
  refine TL.p (EvP.move rfl) ?_
  refine TL.p (EvP.nilP rfl) ?_
  refine TL.p (EvP.fa (e := 3) rfl Try.runUnderlying65 rfl Try.sizeOf63 rfl) ?_
  refine TL.r (EvR.load rfl Try.isAgg63 (AtB.own (by repeat (first | exact Has.hd | refine Has.tlb ?_ | refine Has.tlc ?_))) (by rfl)) ?_
  refine TL.p (EvP.move rfl) ?_
  refine TL.r (EvR.lookupY kR Try.runUnderlying63 Try.zeroValue2 hv rfl rfl (AtB.own (by repeat (first | exact Has.hd | refine Has.tlb ?_ | refine Has.tlc ?_)))) ?_
  refine TL.p (EvP.isT (EvP.ne rfl rfl) (hn)) ?_
  refine TL.p (EvP.assign rfl) ?_
  refine TL.nil ?_
  refine TX.thenN rfl rfl ?_
  refine TC.ctrue rfl ?_
  refine TC.seq ?_
  refine TC.region ?_
  refine TL.p (EvP.assign rfl) ?_
  refine TL.nil ?_
  refine TX.thenN rfl rfl ?_
  refine TC.ret ?_
  refine TX.blkR ?_
  refine TX.thenR ?_
  refine TX.done rfl (Res.one rfl rfl) (fun w hs => Post0.mk hs ?_ (by repeat (first | exact Le.refl _ | exact Le.nil _ | refine Le.hit ?_ | refine Le.hit1 ?_ | refine Le.hit2 ?_ | refine Le.hit3 ?_ | refine Le.hit4 ?_ | refine Le.hit5 ?_ | refine Le.hit6 ?_ | refine Le.hit7 ?_ | refine Le.hit8 ?_ | refine Le.hit9 ?_ | refine Le.hit10 ?_ | refine Le.skip ?_)))
  rfl

theorem watch_full {w0 w : World} {R : List Chunk} {g mb ml mr : Nat} {n : Int} {eb : List (Ent Int)} {cb : Nat} {el : List (Ent (Int × Int))} {cl : Nat} {er : List (Ent Int)} {cr : Nat} {r f t : Int} (hr : 1 ≤ r ∧ r ≤ 281474976710656) (hf : okPid f = true) (ht : okPid t = true) (hv : valOf r er = none) (hl : 1024 ≤ eb.length) (hst : St w0 w ([(g, .cells [.map (some mb), .int .i64 n, .map (some ml), .map (some mr)].toArray 65 (0, 0))] :: [(mb, mapObj kI eb cb)] :: [(ml, mapObj kP el cl)] :: [(mr, mapObj kI er cr)] :: R)) : Calls Try.prog 11 #[.pointer (some ⟨g, 0, none⟩), .int .i64 r, .int .i64 f, .int .i64 t] w (Post0 w0 ([(g, .cells [.map (some mb), .int .i64 n, .map (some ml), .map (some mr)].toArray 65 (0, 0))] :: [(mb, mapObj kI eb cb)] :: [(ml, mapObj kP el cl)] :: [(mr, mapObj kI er cr)] :: R) fun u => u = .int .i64 8) := by
  refine calls_of (args := [_, _, _, _]) Try.func11 rfl Try.ntmps11 hst ?_
  refine TC.seq ?_
  refine TC.region ?_
  refine TL.p (EvP.assign rfl) ?_
  refine TL.nil ?_
  refine TX.thenN rfl rfl ?_
  refine TC.seq ?_
  refine TC.block ?_
  refine TC.seq ?_
  refine TC.region ?_
  refine TL.p (EvP.move rfl) ?_
  refine TL.p (EvP.eqPtrNil Try.runUnderlying24 rfl rfl) ?_
  refine TL.p (EvP.assign rfl) ?_
  refine TL.nil ?_
  refine TX.thenN rfl rfl ?_
  refine TC.cfalse rfl ?_
  refine TC.seq ?_
  refine TC.region ?_
  refine TL.p (EvP.move rfl) ?_
  refine TL.p (EvP.isF (EvP.lt rfl rfl) (by omega)) ?_
  refine TL.p (EvP.move rfl) ?_
  refine TL.gY rfl rfl rfl ?_
  refine TL.p (EvP.move rfl) ?_
  refine TL.gY rfl rfl rfl ?_
  refine TL.p (EvP.isF (EvP.gt rfl rfl) (by omega)) ?_
  refine TL.p (EvP.pickF rfl rfl) ?_
  refine TL.p (EvP.move rfl) ?_
  refine TL.gY rfl rfl rfl ?_
  refine TL.p (EvP.move rfl) ?_
  refine TL.gY rfl rfl rfl ?_
  refine TL.callA rfl rfl Try.call32 (fun w hs => pid_yes hf hs) ?_
  rintro _ rfl
  refine TL.gY rfl rfl rfl ?_
  refine TL.p (EvP.not rfl) ?_
  refine TL.p (EvP.pickF rfl rfl) ?_
  refine TL.p (EvP.move rfl) ?_
  refine TL.gY rfl rfl rfl ?_
  refine TL.p (EvP.move rfl) ?_
  refine TL.gY rfl rfl rfl ?_
  refine TL.callA rfl rfl Try.call32 (fun w hs => pid_yes ht hs) ?_
  rintro _ rfl
  refine TL.gY rfl rfl rfl ?_
  refine TL.p (EvP.not rfl) ?_
  refine TL.p (EvP.pickF rfl rfl) ?_
  refine TL.p (EvP.assign rfl) ?_
  refine TL.nil ?_
  refine TX.thenN rfl rfl ?_
  refine TC.cfalse rfl ?_
  refine TC.seq ?_
  refine TC.region ?_
  refine TL.p (EvP.move rfl) ?_
  refine TL.p (EvP.nilP rfl) ?_
  refine TL.p (EvP.fa (e := 3) rfl Try.runUnderlying65 rfl Try.sizeOf63 rfl) ?_
  refine TL.r (EvR.load rfl Try.isAgg63 (AtB.own (by repeat (first | exact Has.hd | refine Has.tlb ?_ | refine Has.tlc ?_))) (by rfl)) ?_
  refine TL.p (EvP.move rfl) ?_
  refine TL.r (EvR.lookupN kR Try.runUnderlying63 Try.zeroValue2 hv rfl rfl (AtB.own (by repeat (first | exact Has.hd | refine Has.tlb ?_ | refine Has.tlc ?_)))) ?_
  refine TL.p (EvP.ne rfl rfl) ?_
  refine TL.p (EvP.assign rfl) ?_
  refine TL.nil ?_
  refine TX.thenN rfl rfl ?_
  refine TC.cfalse rfl ?_
  refine TC.seq ?_
  refine TC.region ?_
  refine TL.p (EvP.move rfl) ?_
  refine TL.p (EvP.nilP rfl) ?_
  refine TL.p (EvP.fa (e := 0) rfl Try.runUnderlying65 rfl Try.sizeOf61 rfl) ?_
  refine TL.r (EvR.load rfl Try.isAgg61 (AtB.own (by repeat (first | exact Has.hd | refine Has.tlb ?_ | refine Has.tlc ?_))) (by rfl)) ?_
  refine TL.r (EvR.lenM (ke := kI) Try.runUnderlying61 rfl (AtB.own (by repeat (first | exact Has.hd | refine Has.tlb ?_ | refine Has.tlc ?_)))) ?_
  refine TL.p (EvP.isT (EvP.ge rfl rfl) (by omega)) ?_
  refine TL.p (EvP.assign rfl) ?_
  refine TL.nil ?_
  refine TX.thenN rfl rfl ?_
  refine TC.ctrue rfl ?_
  refine TC.seq ?_
  refine TC.region ?_
  refine TL.p (EvP.assign rfl) ?_
  refine TL.nil ?_
  refine TX.thenN rfl rfl ?_
  refine TC.ret ?_
  refine TX.blkR ?_
  refine TX.thenR ?_
  refine TX.done rfl (Res.one rfl rfl) (fun w hs => Post0.mk hs ?_ (by repeat (first | exact Le.refl _ | exact Le.nil _ | refine Le.hit ?_ | refine Le.hit1 ?_ | refine Le.hit2 ?_ | refine Le.hit3 ?_ | refine Le.hit4 ?_ | refine Le.hit5 ?_ | refine Le.hit6 ?_ | refine Le.hit7 ?_ | refine Le.hit8 ?_ | refine Le.hit9 ?_ | refine Le.hit10 ?_ | refine Le.skip ?_)))
  rfl

theorem watch_new {w0 w : World} {R : List Chunk} {g mb ml mr : Nat} {n : Int} {eb : List (Ent Int)} {cb : Nat} {el : List (Ent (Int × Int))} {cl : Nat} {er : List (Ent Int)} {cr : Nat} {r f t : Int} (hr : 1 ≤ r ∧ r ≤ 281474976710656) (hf : okPid f = true) (ht : okPid t = true) (hv : valOf r er = none) (hl : ¬1024 ≤ eb.length) (h0 : 0 ≤ n) (h1 : n < 9223372036854775807) (hnx : valOf (n + 1) eb = none) (hst : St w0 w ([(g, .cells [.map (some mb), .int .i64 n, .map (some ml), .map (some mr)].toArray 65 (0, 0))] :: [(mb, mapObj kI eb cb)] :: [(ml, mapObj kP el cl)] :: [(mr, mapObj kI er cr)] :: R)) : Calls Try.prog 11 #[.pointer (some ⟨g, 0, none⟩), .int .i64 r, .int .i64 f, .int .i64 t] w (Post0 w0 ([(g, .cells [.map (some mb), .int .i64 (n + 1), .map (some ml), .map (some mr)].toArray 65 (0, 0))] :: [(mb, mapObj kI (eb ++ [(n + 1, (⟨f, t, r⟩ : Bond).v, cb)]) (cb + 1))] :: [(ml, mapObj kP el cl)] :: [(mr, mapObj kI (er ++ [(r, .int .i64 (n + 1), cr)]) (cr + 1))] :: R) fun u => u = .int .i64 0) := by
  refine calls_of (args := [_, _, _, _]) Try.func11 rfl Try.ntmps11 hst ?_
  refine TC.seq ?_
  refine TC.region ?_
  refine TL.p (EvP.assign rfl) ?_
  refine TL.nil ?_
  refine TX.thenN rfl rfl ?_
  refine TC.seq ?_
  refine TC.block ?_
  refine TC.seq ?_
  refine TC.region ?_
  refine TL.p (EvP.move rfl) ?_
  refine TL.p (EvP.eqPtrNil Try.runUnderlying24 rfl rfl) ?_
  refine TL.p (EvP.assign rfl) ?_
  refine TL.nil ?_
  refine TX.thenN rfl rfl ?_
  refine TC.cfalse rfl ?_
  refine TC.seq ?_
  refine TC.region ?_
  refine TL.p (EvP.move rfl) ?_
  refine TL.p (EvP.isF (EvP.lt rfl rfl) (by omega)) ?_
  refine TL.p (EvP.move rfl) ?_
  refine TL.gY rfl rfl rfl ?_
  refine TL.p (EvP.move rfl) ?_
  refine TL.gY rfl rfl rfl ?_
  refine TL.p (EvP.isF (EvP.gt rfl rfl) (by omega)) ?_
  refine TL.p (EvP.pickF rfl rfl) ?_
  refine TL.p (EvP.move rfl) ?_
  refine TL.gY rfl rfl rfl ?_
  refine TL.p (EvP.move rfl) ?_
  refine TL.gY rfl rfl rfl ?_
  refine TL.callA rfl rfl Try.call32 (fun w hs => pid_yes hf hs) ?_
  rintro _ rfl
  refine TL.gY rfl rfl rfl ?_
  refine TL.p (EvP.not rfl) ?_
  refine TL.p (EvP.pickF rfl rfl) ?_
  refine TL.p (EvP.move rfl) ?_
  refine TL.gY rfl rfl rfl ?_
  refine TL.p (EvP.move rfl) ?_
  refine TL.gY rfl rfl rfl ?_
  refine TL.callA rfl rfl Try.call32 (fun w hs => pid_yes ht hs) ?_
  rintro _ rfl
  refine TL.gY rfl rfl rfl ?_
  refine TL.p (EvP.not rfl) ?_
  refine TL.p (EvP.pickF rfl rfl) ?_
  refine TL.p (EvP.assign rfl) ?_
  refine TL.nil ?_
  refine TX.thenN rfl rfl ?_
  refine TC.cfalse rfl ?_
  refine TC.seq ?_
  refine TC.region ?_
  refine TL.p (EvP.move rfl) ?_
  refine TL.p (EvP.nilP rfl) ?_
  refine TL.p (EvP.fa (e := 3) rfl Try.runUnderlying65 rfl Try.sizeOf63 rfl) ?_
  refine TL.r (EvR.load rfl Try.isAgg63 (AtB.own (by repeat (first | exact Has.hd | refine Has.tlb ?_ | refine Has.tlc ?_))) (by rfl)) ?_
  refine TL.p (EvP.move rfl) ?_
  refine TL.r (EvR.lookupN kR Try.runUnderlying63 Try.zeroValue2 hv rfl rfl (AtB.own (by repeat (first | exact Has.hd | refine Has.tlb ?_ | refine Has.tlc ?_)))) ?_
  refine TL.p (EvP.ne rfl rfl) ?_
  refine TL.p (EvP.assign rfl) ?_
  refine TL.nil ?_
  refine TX.thenN rfl rfl ?_
  refine TC.cfalse rfl ?_
  refine TC.seq ?_
  refine TC.region ?_
  refine TL.p (EvP.move rfl) ?_
  refine TL.p (EvP.nilP rfl) ?_
  refine TL.p (EvP.fa (e := 0) rfl Try.runUnderlying65 rfl Try.sizeOf61 rfl) ?_
  refine TL.r (EvR.load rfl Try.isAgg61 (AtB.own (by repeat (first | exact Has.hd | refine Has.tlb ?_ | refine Has.tlc ?_))) (by rfl)) ?_
  refine TL.r (EvR.lenM (ke := kI) Try.runUnderlying61 rfl (AtB.own (by repeat (first | exact Has.hd | refine Has.tlb ?_ | refine Has.tlc ?_)))) ?_
  refine TL.p (EvP.isF (EvP.ge rfl rfl) (by omega)) ?_
  refine TL.p (EvP.assign rfl) ?_
  refine TL.nil ?_
  refine TX.thenN rfl rfl ?_
  refine TC.cfalse rfl ?_
  refine TC.skip ?_
  refine TX.blkN ?_
  refine TX.thenN rfl rfl ?_
  refine TC.seq ?_
  refine TC.drawn (listed := #[false, false, false, false, false, false, false, false, false, false, false, false]) 12 (SG w0 g mb ml mr []) rfl rfl rfl rfl (fun w hs => SG.of hs (by repeat (first | exact Has.hd | refine Has.tlb ?_ | refine Has.tlc ?_)) (by repeat (first | exact Le.refl _ | exact Le.nil _ | refine Le.hit ?_ | refine Le.hit1 ?_ | refine Le.hit2 ?_ | refine Le.hit3 ?_ | refine Le.hit4 ?_ | refine Le.hit5 ?_ | refine Le.hit6 ?_ | refine Le.hit7 ?_ | refine Le.hit8 ?_ | refine Le.hit9 ?_ | refine Le.hit10 ?_ | refine Le.skip ?_))) ?_
  refine TR.take 0 rfl (by kernel_rfl) (by kernel_rfl) (by kernel_rfl) (EvP.r (by exact EvP.move rfl)) (l' := #[true, false, false, false, false, false, false, false, false, false, false, false]) rfl ?_
  refine TR.take 1 rfl (by kernel_rfl) (by kernel_rfl) (by kernel_rfl) (EvP.r (by exact EvP.nilP rfl)) (l' := #[true, true, false, false, false, false, false, false, false, false, false, false]) rfl ?_
  refine TR.take 2 rfl (by kernel_rfl) (by kernel_rfl) (by kernel_rfl) (EvP.r (by exact EvP.fa (e := 3) rfl Try.runUnderlying65 rfl Try.sizeOf63 rfl)) (l' := #[true, true, true, false, false, false, false, false, false, false, false, false]) rfl ?_
  refine TR.take 3 rfl (by kernel_rfl) (by kernel_rfl) (by kernel_rfl) (EvR.loadS rfl Try.isAgg63 (by exact SG.c3)) (l' := #[true, true, true, true, false, false, false, false, false, false, false, false]) rfl ?_
  refine TR.take 4 rfl (by kernel_rfl) (by kernel_rfl) (by kernel_rfl) (EvP.r (by exact EvP.move rfl)) (l' := #[true, true, true, true, true, false, false, false, false, false, false, false]) rfl ?_
  refine TR.take 5 rfl (by kernel_rfl) (by kernel_rfl) (by kernel_rfl) (EvP.r (by exact EvP.move rfl)) (l' := #[true, true, true, true, true, true, false, false, false, false, false, false]) rfl ?_
  refine TR.take 6 rfl (by kernel_rfl) (by kernel_rfl) (by kernel_rfl) (EvP.r (by exact EvP.move rfl)) (l' := #[true, true, true, true, true, true, true, false, false, false, false, false]) rfl ?_
  refine TR.take 7 rfl (by kernel_rfl) (by kernel_rfl) (by kernel_rfl) (EvP.r (by exact EvP.move rfl)) (l' := #[true, true, true, true, true, true, true, true, false, false, false, false]) rfl ?_
  refine TR.take 8 rfl (by kernel_rfl) (by kernel_rfl) (by kernel_rfl) (EvP.r (by exact EvP.move rfl)) (l' := #[true, true, true, true, true, true, true, true, true, false, false, false]) rfl ?_
  refine TR.take 9 rfl (by kernel_rfl) (by kernel_rfl) (by kernel_rfl) (EvP.r (by exact EvP.buildS (is := [0, 1, 2]) (xs := [_, _, _]) rfl Try.runUnderlying48 Try.zeroValue48 rfl (.cons Try.sizeOf2 (.cons Try.sizeOf2 (.cons Try.sizeOf2 .nil))) rfl rfl rfl)) (l' := #[true, true, true, true, true, true, true, true, true, true, false, false]) rfl ?_
  refine TR.one (i := 10) (by kernel_rfl) ?_
  refine TRi.call rfl rfl rfl Try.call33 (fun w hs => put_raw ⟨f, t, r⟩ h0 h1 hnx hs) (l' := #[true, true, true, true, true, true, true, true, true, true, true, false]) rfl ?_
  rintro _ _ ⟨rfl, rfl⟩
  refine ⟨fun w hs => SG.of hs (by repeat (first | exact Has.hd | refine Has.tlb ?_ | refine Has.tlc ?_)) (by repeat (first | exact Le.refl _ | exact Le.nil _ | refine Le.hit ?_ | refine Le.hit1 ?_ | refine Le.hit2 ?_ | refine Le.hit3 ?_ | refine Le.hit4 ?_ | refine Le.hit5 ?_ | refine Le.hit6 ?_ | refine Le.hit7 ?_ | refine Le.hit8 ?_ | refine Le.hit9 ?_ | refine Le.hit10 ?_ | refine Le.skip ?_)), ?_⟩
  refine TR.one (i := 11) (by kernel_rfl) ?_
  refine TRi.u rfl (EvU.putNew kR Try.runUnderlying63 rfl rfl rfl hv (by repeat (first | exact Upd.hd | apply Upd.tlb | apply Upd.tlc))) (fun w hs => SG.of hs (by repeat (first | exact Has.hd | refine Has.tlb ?_ | refine Has.tlc ?_)) (by repeat (first | exact Le.refl _ | exact Le.nil _ | refine Le.hit ?_ | refine Le.hit1 ?_ | refine Le.hit2 ?_ | refine Le.hit3 ?_ | refine Le.hit4 ?_ | refine Le.hit5 ?_ | refine Le.hit6 ?_ | refine Le.hit7 ?_ | refine Le.hit8 ?_ | refine Le.hit9 ?_ | refine Le.hit10 ?_ | refine Le.skip ?_))) (l' := #[true, true, true, true, true, true, true, true, true, true, true, true]) rfl ?_
  refine TR.done (by kernel_rfl) ?_
  refine TX.thenN rfl rfl ?_
  refine TC.seq ?_
  refine TC.region ?_
  refine TL.p (EvP.assign rfl) ?_
  refine TL.nil ?_
  refine TX.thenN rfl rfl ?_
  refine TC.ret ?_
  refine TX.done rfl (Res.one rfl rfl) (fun w hs => Post0.mk hs ?_ (by repeat (first | exact Le.refl _ | exact Le.nil _ | refine Le.hit ?_ | refine Le.hit1 ?_ | refine Le.hit2 ?_ | refine Le.hit3 ?_ | refine Le.hit4 ?_ | refine Le.hit5 ?_ | refine Le.hit6 ?_ | refine Le.hit7 ?_ | refine Le.hit8 ?_ | refine Le.hit9 ?_ | refine Le.hit10 ?_ | refine Le.skip ?_)))
  rfl
end Go.Proofs.Ytnmljhhbabjlcaa
