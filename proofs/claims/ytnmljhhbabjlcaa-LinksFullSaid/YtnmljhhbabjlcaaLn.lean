/-
  The walk of LinksFull: whatever the input, it answers true.
-/
import Derived.Test.YtnmljhhbabjlcaaLm
set_option linter.unusedSimpArgs false
set_option linter.unusedVariables false
set_option maxRecDepth 4000
namespace Go.Proofs.Ytnmljhhbabjlcaa
open Go Go.RowKit

theorem full_walk {w0 w : World} {R : List Chunk} (n : Int) (o : LOp) (hst : St w0 w R) : Calls Try.prog 3 #[.int .i64 n, o.v] w (Post0 w0 R fun u => u = .bool true) := by
  refine calls_of (args := [_, _]) Try.func3 rfl Try.ntmps3 hst ?_
  refine TC.seq ?_
  refine TC.region ?_
  refine TL.box rfl rfl (fun b3 => ?_)
  refine TL.p (EvP.assign rfl) ?_
  refine TL.nil ?_
  refine TX.thenN rfl rfl ?_
  refine TC.seq ?_
  refine TC.region ?_
  refine TL.callB rfl rfl Try.call9 (fun w hs => new_spec hs) ?_
  rintro _ C ⟨g, rfl, hG⟩
  refine TL.p (EvP.buildS (is := []) (xs := []) rfl Try.runUnderlying29 Try.zeroValue29 rfl (.cons Try.sizeOf27 .nil) rfl rfl rfl) ?_
  refine TL.box rfl rfl (fun b10 => ?_)
  refine TL.le (Le.hit Le.nilC) ?_
  refine TL.p (EvP.assign rfl) ?_
  refine TL.p (EvP.assign rfl) ?_
  refine TL.nil ?_
  refine TX.thenN rfl rfl ?_
  refine TC.seq ?_
  refine TC.seq ?_
  refine TC.region ?_
  refine TL.p (EvP.move rfl) ?_
  refine TL.p (EvP.eqPtrNil Try.runUnderlying24 rfl rfl) ?_
  refine TL.nil ?_
  refine TX.thenN rfl rfl ?_
  refine TC.cfalse rfl ?_
  refine TC.skip ?_
  refine TX.thenN rfl rfl ?_
  refine TC.seq ?_
  refine TC.region ?_
  refine TL.p (EvP.move rfl) ?_
  refine TL.callA rfl rfl Try.call10 (fun w hs => count_spec n 4 (by omega) hs) ?_
  rintro _ ⟨x, rfl, hx0, hx1⟩
  refine TL.p (EvP.add rfl rfl (by omega)) ?_
  refine TL.p (EvP.assign rfl) ?_
  refine TL.nil ?_
  refine TX.thenN rfl rfl ?_
  refine TC.seq ?_
  refine TC.seq ?_
  refine TC.region ?_
  refine TL.p (EvP.assign rfl) ?_
  refine TL.nil ?_
  refine TX.thenN rfl rfl ?_
  refine TC.block ?_
  refine TC.loop (ι := Nat × List Bond × Chunk × Chunk × Chunk) (fun (i, L, C, Cr, D) => [(5, .pointer (some ⟨g, 0, none⟩)), (6, .pointer (some ⟨b10, 0, none⟩)), (0, .int .i64 (1022 + x)), (7, .int .i64 i), (3, .pointer (some ⟨b3, 0, none⟩))]) (fun (i, L, C, Cr, D) => C :: Cr :: D :: [(b3, .cells o.enc.toArray 23 (0, 0))] :: R) (fun (i, L, C, Cr, D) => (i : Int) ≤ 1022 + x ∧ IsG i L g C ∧ RQ b10 L Cr D) (fun (i, L, C, Cr, D) => (1022 + x).toNat - i) ((0, [], C, [(b10, .cells [.slice none 0 0].toArray 29 (0, 0))], [])) (⟨by omega, hG, _, rfl, Sl.nil⟩) ⟨rfl, rfl, rfl, rfl, rfl, trivial⟩ (by repeat (first | exact Le.refl _ | exact Le.nil _ | refine Le.hit ?_ | refine Le.hit1 ?_ | refine Le.hit2 ?_ | refine Le.hit3 ?_ | refine Le.hit4 ?_ | refine Le.hit5 ?_ | refine Le.hit6 ?_ | refine Le.skip ?_)) ?_
  rintro ⟨i, L, C, Cr, D⟩ ⟨hi, hG, hR⟩
  change TC _ _ [(5, .pointer (some ⟨g, 0, none⟩)), (6, .pointer (some ⟨b10, 0, none⟩)), (0, .int .i64 (1022 + x)), (7, .int .i64 i), (3, .pointer (some ⟨b3, 0, none⟩))] (C :: Cr :: D :: [(b3, .cells o.enc.toArray 23 (0, 0))] :: R) _
  have hl := hG.ok.len
  refine TC.seq ?_
  refine TC.seq ?_
  refine TC.region ?_
  refine TL.p (EvP.move rfl) ?_
  refine TL.p (EvP.move rfl) ?_
  refine TL.dec (EvP.lt rfl rfl) (fun h18 => ?_) (fun h18 => ?_)
  · refine TL.nil ?_
    refine TX.thenN rfl rfl ?_
    refine TC.ctrue rfl ?_
    refine TC.skip ?_
    refine TX.thenN rfl rfl ?_
    refine TC.seq ?_
    refine TC.block ?_
    refine TC.seq ?_
    refine TC.region ?_
    refine TL.p (EvP.move rfl) ?_
    refine TL.p (EvP.move rfl) ?_
    refine TL.p (EvP.add rfl rfl (by omega)) ?_
    refine TL.p (EvP.move rfl) ?_
    refine TL.p (EvP.add rfl rfl (by omega)) ?_
    refine TL.callB rfl rfl Try.call11 (fun w hs => g_watch hG (by omega) (i + 1) 1 (i + 2) hs) ?_
    rintro _ C2 ⟨rfl, hG2⟩
    refine TL.p (EvP.move rfl) ?_
    refine TL.p (EvP.move rfl) ?_
    refine TL.p (EvP.add rfl rfl (by omega)) ?_
    refine TL.p (EvP.move rfl) ?_
    refine TL.p (EvP.add rfl rfl (by omega)) ?_
    refine TL.le (Le.hit1 (Le.hit1 (Le.refl _))) ?_
    refine TL.callC rfl rfl Try.call12 (fun w hs => r_watch hR hl (i + 1) 1 (i + 2) hs) ?_
    rintro _ Cr2 D2 ⟨rfl, hR2⟩
    refine TL.p (EvP.isF (EvP.ne rfl rfl) (by simp)) ?_
    refine TL.nil ?_
    refine TX.thenN rfl rfl ?_
    refine TC.cfalse rfl ?_
    refine TC.skip ?_
    refine TX.blkN ?_
    refine TX.thenN rfl rfl ?_
    refine TC.region ?_
    refine TL.p (EvP.move rfl) ?_
    refine TL.p (EvP.add rfl rfl (by omega)) ?_
    refine TL.p (EvP.assign rfl) ?_
    refine TL.nil ?_
    refine TX.back ((i + 1, _, C2, Cr2, D2)) (⟨by omega, hG2, hR2⟩) (by simp only; omega) ⟨rfl, rfl, rfl, rfl, rfl, trivial⟩ (by repeat (first | exact Le.refl _ | exact Le.nil _ | refine Le.hit ?_ | refine Le.hit1 ?_ | refine Le.hit2 ?_ | refine Le.hit3 ?_ | refine Le.hit4 ?_ | refine Le.hit5 ?_ | refine Le.hit6 ?_ | refine Le.skip ?_))
  · refine TL.nil ?_
    refine TX.thenN rfl rfl ?_
    refine TC.cfalse rfl ?_
    refine TC.exit ?_
    refine TX.thenE ?_
    refine TX.thenE ?_
    refine TX.blkH ?_
    refine TX.thenN rfl rfl ?_
    refine TC.seq ?_
    refine TC.drawn (listed := #[false, false, false, false, false, false, false, false, false, false, false, false, false, false, false, false, false]) 17 (SH w0 [[(b3, .cells o.enc.toArray 23 (0, 0))]]) rfl rfl rfl rfl (fun w hs => SH.of hs (by repeat (first | exact Le.refl _ | exact Le.nil _ | refine Le.hit ?_ | refine Le.hit1 ?_ | refine Le.hit2 ?_ | refine Le.hit3 ?_ | refine Le.hit4 ?_ | refine Le.hit5 ?_ | refine Le.hit6 ?_ | refine Le.skip ?_))) ?_
    refine TR.take 0 rfl (by kernel_rfl) (by kernel_rfl) (by kernel_rfl) (EvP.r (by exact EvP.move rfl)) (l' := #[true, false, false, false, false, false, false, false, false, false, false, false, false, false, false, false, false]) rfl ?_
    refine TR.take 1 rfl (by kernel_rfl) (by kernel_rfl) (by kernel_rfl) (EvP.r (by exact EvP.move rfl)) (l' := #[true, true, false, false, false, false, false, false, false, false, false, false, false, false, false, false, false]) rfl ?_
    refine TR.take 2 rfl (by kernel_rfl) (by kernel_rfl) (by kernel_rfl) (EvR.loadN (vs := [_, _, _, _]) rfl Try.isAgg23 Try.sizeOf23 (AtB.own' (by repeat (first | exact Has.hd | refine Has.tlb ?_ | refine Has.tlc ?_))) (by exact ⟨rfl, rfl, rfl, rfl,  trivial⟩)) (l' := #[true, true, true, false, false, false, false, false, false, false, false, false, false, false, false, false, false]) rfl ?_
    refine TR.one (i := 3) (by kernel_rfl) ?_
    refine TRi.call rfl rfl rfl Try.call13 (fun w hs => step_spec hG (by omega) hR o hs) (l' := #[true, true, true, true, false, false, false, false, false, false, false, false, false, false, false, false, false]) rfl ?_
    rintro _ _ ⟨C2, Cr2, D2, rfl, rfl, hG2, hR2⟩
    obtain ⟨v2, rfl, hv2⟩ := hR2
    have hl2 := hG2.ok.len
    refine ⟨(fun w hs => SH.of hs (by repeat (first | exact Le.refl _ | exact Le.nil _ | refine Le.hit ?_ | refine Le.hit1 ?_ | refine Le.hit2 ?_ | refine Le.hit3 ?_ | refine Le.hit4 ?_ | refine Le.hit5 ?_ | refine Le.hit6 ?_ | refine Le.skip ?_))), ?_⟩
    refine TR.take 4 rfl (by kernel_rfl) (by kernel_rfl) (by kernel_rfl) (EvP.r (by exact EvP.move rfl)) (l' := #[true, true, true, true, true, false, false, false, false, false, false, false, false, false, false, false, false]) rfl ?_
    refine TR.takeY 5 rfl rfl rfl rfl (by kernel_rfl) (by kernel_rfl) (by kernel_rfl) (EvP.r (by exact EvP.move rfl)) (l' := #[true, true, true, true, true, true, false, false, false, false, false, false, false, false, false, false, false]) rfl ?_
    refine TR.takeY 7 rfl rfl rfl rfl (by kernel_rfl) (by kernel_rfl) (by kernel_rfl) (EvP.r (by exact EvP.move rfl)) (l' := #[true, true, true, true, true, true, false, true, false, false, false, false, false, false, false, false, false]) rfl ?_
    refine TR.takeY 8 rfl rfl rfl rfl (by kernel_rfl) (by kernel_rfl) (by kernel_rfl) (EvP.r (by exact EvP.nilP rfl)) (l' := #[true, true, true, true, true, true, false, true, true, false, false, false, false, false, false, false, false]) rfl ?_
    refine TR.takeY 9 rfl rfl rfl rfl (by kernel_rfl) (by kernel_rfl) (by kernel_rfl) (EvP.r (by exact EvP.fa (e := 0) rfl Try.runUnderlying29 rfl Try.sizeOf27 rfl)) (l' := #[true, true, true, true, true, true, false, true, true, true, false, false, false, false, false, false, false]) rfl ?_
    refine TR.two (i := 6) (j := 10) (by kernel_rfl) ?_ ?_
    · refine TRi.callG rfl rfl rfl rfl rfl rfl Try.call15 (fun w hs => g_every hG2 (by omega) hs) (l' := #[true, true, true, true, true, true, true, true, true, true, false, false, false, false, false, false, false]) rfl ?_
      rintro _ _ ⟨E, rfl, hu⟩
      rw [List.take_of_length_le (by show (stp L o).length ≤ 2048; omega)] at hu
      refine ⟨(fun w hs => SH.of hs (by repeat (first | exact Le.refl _ | exact Le.nil _ | refine Le.hit ?_ | refine Le.hit1 ?_ | refine Le.hit2 ?_ | refine Le.hit3 ?_ | refine Le.hit4 ?_ | refine Le.hit5 ?_ | refine Le.hit6 ?_ | refine Le.skip ?_))), ?_⟩
      refine TR.one (i := 10) (by kernel_rfl) ?_
      refine TRi.rG rfl rfl rfl rfl (EvR.load rfl Try.isAgg27 (AtB.own (by repeat (first | exact Has.hd | refine Has.tlb ?_ | refine Has.tlc ?_))) (by rfl)) ((fun w hs => SH.of hs (by repeat (first | exact Le.refl _ | exact Le.nil _ | refine Le.hit ?_ | refine Le.hit1 ?_ | refine Le.hit2 ?_ | refine Le.hit3 ?_ | refine Le.hit4 ?_ | refine Le.hit5 ?_ | refine Le.hit6 ?_ | refine Le.skip ?_)))) (l' := #[true, true, true, true, true, true, true, true, true, true, true, false, false, false, false, false, false]) rfl ?_
      refine TR.one (i := 11) (by kernel_rfl) ?_
      refine TRi.callG rfl rfl rfl rfl rfl rfl Try.call14 (fun w hs => bonds_spec (hu.els encB_ok (by simp)) (hv2.els encB_ok (by simp)) (by omega) hs) (l' := #[true, true, true, true, true, true, true, true, true, true, true, true, false, false, false, false, false]) rfl ?_
      rintro _ _ ⟨rfl, rfl⟩
      refine ⟨(fun w hs => SH.of hs (by repeat (first | exact Le.refl _ | exact Le.nil _ | refine Le.hit ?_ | refine Le.hit1 ?_ | refine Le.hit2 ?_ | refine Le.hit3 ?_ | refine Le.hit4 ?_ | refine Le.hit5 ?_ | refine Le.hit6 ?_ | refine Le.skip ?_))), ?_⟩
      refine TR.take 12 rfl (by kernel_rfl) (by kernel_rfl) (by kernel_rfl) (EvP.r (by exact EvP.pickT rfl rfl)) (l' := #[true, true, true, true, true, true, true, true, true, true, true, true, true, false, false, false, false]) rfl ?_
      refine TR.take 13 rfl (by kernel_rfl) (by kernel_rfl) (by kernel_rfl) (EvP.r (by exact EvP.move rfl)) (l' := #[true, true, true, true, true, true, true, true, true, true, true, true, true, true, false, false, false]) rfl ?_
      refine TR.one (i := 14) (by kernel_rfl) ?_
      refine TRi.callG rfl rfl rfl rfl rfl rfl Try.call16 (fun w hs => awake_spec hs) (l' := #[true, true, true, true, true, true, true, true, true, true, true, true, true, true, true, false, false]) rfl ?_
      rintro _ _ ⟨rfl, rfl⟩
      refine ⟨(fun w hs => SH.of hs (by repeat (first | exact Le.refl _ | exact Le.nil _ | refine Le.hit ?_ | refine Le.hit1 ?_ | refine Le.hit2 ?_ | refine Le.hit3 ?_ | refine Le.hit4 ?_ | refine Le.hit5 ?_ | refine Le.hit6 ?_ | refine Le.skip ?_))), ?_⟩
      refine TR.take 15 rfl (by kernel_rfl) (by kernel_rfl) (by kernel_rfl) (EvP.r (by exact EvP.pickT rfl rfl)) (l' := #[true, true, true, true, true, true, true, true, true, true, true, true, true, true, true, true, false]) rfl ?_
      refine TR.take 16 rfl (by kernel_rfl) (by kernel_rfl) (by kernel_rfl) (EvP.r (by exact EvP.assign rfl)) (l' := #[true, true, true, true, true, true, true, true, true, true, true, true, true, true, true, true, true]) rfl ?_
      refine TR.done (by kernel_rfl) ?_
      refine TX.thenN rfl rfl ?_
      refine TC.ret ?_
      refine TX.done rfl (Res.one rfl rfl) (fun w hs => Post0.mk hs ?_ (by repeat (first | exact Le.refl _ | exact Le.nil _ | refine Le.hit ?_ | refine Le.hit1 ?_ | refine Le.hit2 ?_ | refine Le.hit3 ?_ | refine Le.hit4 ?_ | refine Le.hit5 ?_ | refine Le.hit6 ?_ | refine Le.skip ?_)))
      rfl
    · refine TRi.rG rfl rfl rfl rfl (EvR.load rfl Try.isAgg27 (AtB.own (by repeat (first | exact Has.hd | refine Has.tlb ?_ | refine Has.tlc ?_))) (by rfl)) ((fun w hs => SH.of hs (by repeat (first | exact Le.refl _ | exact Le.nil _ | refine Le.hit ?_ | refine Le.hit1 ?_ | refine Le.hit2 ?_ | refine Le.hit3 ?_ | refine Le.hit4 ?_ | refine Le.hit5 ?_ | refine Le.hit6 ?_ | refine Le.skip ?_)))) (l' := #[true, true, true, true, true, true, false, true, true, true, true, false, false, false, false, false, false]) rfl ?_
      refine TR.one (i := 6) (by kernel_rfl) ?_
      refine TRi.callG rfl rfl rfl rfl rfl rfl Try.call15 (fun w hs => g_every hG2 (by omega) hs) (l' := #[true, true, true, true, true, true, true, true, true, true, true, false, false, false, false, false, false]) rfl ?_
      rintro _ _ ⟨E, rfl, hu⟩
      rw [List.take_of_length_le (by show (stp L o).length ≤ 2048; omega)] at hu
      refine ⟨(fun w hs => SH.of hs (by repeat (first | exact Le.refl _ | exact Le.nil _ | refine Le.hit ?_ | refine Le.hit1 ?_ | refine Le.hit2 ?_ | refine Le.hit3 ?_ | refine Le.hit4 ?_ | refine Le.hit5 ?_ | refine Le.hit6 ?_ | refine Le.skip ?_))), ?_⟩
      refine TR.one (i := 11) (by kernel_rfl) ?_
      refine TRi.callG rfl rfl rfl rfl rfl rfl Try.call14 (fun w hs => bonds_spec (hu.els encB_ok (by simp)) (hv2.els encB_ok (by simp)) (by omega) hs) (l' := #[true, true, true, true, true, true, true, true, true, true, true, true, false, false, false, false, false]) rfl ?_
      rintro _ _ ⟨rfl, rfl⟩
      refine ⟨(fun w hs => SH.of hs (by repeat (first | exact Le.refl _ | exact Le.nil _ | refine Le.hit ?_ | refine Le.hit1 ?_ | refine Le.hit2 ?_ | refine Le.hit3 ?_ | refine Le.hit4 ?_ | refine Le.hit5 ?_ | refine Le.hit6 ?_ | refine Le.skip ?_))), ?_⟩
      refine TR.take 12 rfl (by kernel_rfl) (by kernel_rfl) (by kernel_rfl) (EvP.r (by exact EvP.pickT rfl rfl)) (l' := #[true, true, true, true, true, true, true, true, true, true, true, true, true, false, false, false, false]) rfl ?_
      refine TR.take 13 rfl (by kernel_rfl) (by kernel_rfl) (by kernel_rfl) (EvP.r (by exact EvP.move rfl)) (l' := #[true, true, true, true, true, true, true, true, true, true, true, true, true, true, false, false, false]) rfl ?_
      refine TR.one (i := 14) (by kernel_rfl) ?_
      refine TRi.callG rfl rfl rfl rfl rfl rfl Try.call16 (fun w hs => awake_spec hs) (l' := #[true, true, true, true, true, true, true, true, true, true, true, true, true, true, true, false, false]) rfl ?_
      rintro _ _ ⟨rfl, rfl⟩
      refine ⟨(fun w hs => SH.of hs (by repeat (first | exact Le.refl _ | exact Le.nil _ | refine Le.hit ?_ | refine Le.hit1 ?_ | refine Le.hit2 ?_ | refine Le.hit3 ?_ | refine Le.hit4 ?_ | refine Le.hit5 ?_ | refine Le.hit6 ?_ | refine Le.skip ?_))), ?_⟩
      refine TR.take 15 rfl (by kernel_rfl) (by kernel_rfl) (by kernel_rfl) (EvP.r (by exact EvP.pickT rfl rfl)) (l' := #[true, true, true, true, true, true, true, true, true, true, true, true, true, true, true, true, false]) rfl ?_
      refine TR.take 16 rfl (by kernel_rfl) (by kernel_rfl) (by kernel_rfl) (EvP.r (by exact EvP.assign rfl)) (l' := #[true, true, true, true, true, true, true, true, true, true, true, true, true, true, true, true, true]) rfl ?_
      refine TR.done (by kernel_rfl) ?_
      refine TX.thenN rfl rfl ?_
      refine TC.ret ?_
      refine TX.done rfl (Res.one rfl rfl) (fun w hs => Post0.mk hs ?_ (by repeat (first | exact Le.refl _ | exact Le.nil _ | refine Le.hit ?_ | refine Le.hit1 ?_ | refine Le.hit2 ?_ | refine Le.hit3 ?_ | refine Le.hit4 ?_ | refine Le.hit5 ?_ | refine Le.hit6 ?_ | refine Le.skip ?_)))
      rfl
end Go.Proofs.Ytnmljhhbabjlcaa
