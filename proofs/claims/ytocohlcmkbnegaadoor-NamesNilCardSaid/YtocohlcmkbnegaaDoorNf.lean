/-
  The walk of NamesPlays: whatever the script, it answers true.
-/
import Derived.Test.YtocohlcmkbnegaaDoorNe
set_option linter.unusedSimpArgs false
set_option linter.unusedVariables false
set_option maxRecDepth 100000
namespace Go.Proofs.YtocohlcmkbnegaaDoor
open Go Go.RowKit

structure NOp where
  k : Int
  n : Str
  p : Int
def NOp.enc (o : NOp) : List Value := [.int .i64 o.k, sv o.n, .int .i64 o.p]
def NOp.v (o : NOp) : Value := .agg o.enc.toArray
def stp (L : List En) (o : NOp) : List En := if o.k = 0 then (add L o.n o.p).2 else if o.k = 1 then (drp L o.n).2 else if o.k = 2 then gonL L o.p else L
def shop : Str := [115, 104, 111, 112]
theorem okA_shop : okA shop = true := by
  unfold okA shop
  rw [Go.Lib.validD_cons _ _ (by decide), Go.Lib.validD_cons _ _ (by decide), Go.Lib.validD_cons _ _ (by decide), Go.Lib.validD_cons _ _ (by decide), Go.Lib.validD_nil]
  decide
theorem okN_shop : okN shop = true := by
  unfold okN
  rw [okA_shop]; decide
theorem kn1 : add [] shop 5 = (0, [⟨shop, 5⟩]) := by
  unfold add
  rw [okN_shop]; decide
theorem kn2 : add [⟨shop, 5⟩] shop 6 = (6, [⟨shop, 5⟩]) := by
  unfold add
  rw [okN_shop]; decide
theorem kn3 : fndN [⟨shop, 5⟩] shop = (5, true) := by decide
theorem cut_0 {L : List En} : cutL 0 L = L := rfl
theorem cut_2y {L : List En} : cutL 2 L = L.take 2 := rfl
theorem cut_2n {L : List En} (h : ¬ (2 : Int) < L.length) : cutL 2 L = L := by rw [cut_2y, List.take_of_length_le (by omega)]

theorem known_spec {w0 w : World} {R : List Chunk} (hT : Tabs w0) (hst : St w0 w R) : Calls Tryd.prog 12 #[] w (Post0 w0 R fun v => v = .bool true) := by
  refine calls_of (args := []) Tryd.func12 rfl Tryd.ntmps12 hst ?_
  refine TC.seq ?_
  refine TC.region ?_
  refine TL.p (EvP.assign rfl) ?_
  refine TL.nil ?_
  refine TX.thenN rfl rfl ?_
  refine TC.seq ?_
  refine TC.region ?_
  refine TL.callB rfl rfl Tryd.call7 (fun w hs => new_spec hs) ?_
  rintro _ C ⟨g, rfl, hG⟩
  refine TL.p (EvP.assign rfl) ?_
  refine TL.nil ?_
  refine TX.thenN rfl rfl ?_
  refine TC.seq ?_
  refine TC.seq ?_
  refine TC.region ?_
  refine TL.p (EvP.move rfl) ?_
  refine TL.p (EvP.eqPtrNil Tryd.runUnderlying23 rfl rfl) ?_
  refine TL.nil ?_
  refine TX.thenN rfl rfl ?_
  refine TC.cfalse rfl ?_
  refine TC.skip ?_
  refine TX.thenN rfl rfl ?_
  refine TC.seq ?_
  refine TC.region ?_
  refine TL.p (EvP.move rfl) ?_
  refine TL.callB rfl rfl Tryd.call13 (fun w hs => (by have h := g_add hG hT shop 5 hs; rw [kn1] at h; exact h)) ?_
  rintro _ C2 ⟨rfl, hG2⟩
  refine TL.p (EvP.assign rfl) ?_
  refine TL.nil ?_
  refine TX.thenN rfl rfl ?_
  refine TC.seq ?_
  refine TC.region ?_
  refine TL.p (EvP.move rfl) ?_
  refine TL.callB rfl rfl Tryd.call13 (fun w hs => (by have h := g_add hG2 hT shop 6 hs; rw [kn2] at h; exact h)) ?_
  rintro _ C3 ⟨rfl, hG3⟩
  refine TL.p (EvP.assign rfl) ?_
  refine TL.nil ?_
  refine TX.thenN rfl rfl ?_
  refine TC.seq ?_
  refine TC.region ?_
  refine TL.p (EvP.move rfl) ?_
  refine TL.callB rfl rfl Tryd.call16 (fun w hs => (by have h := g_find hG3 shop hs; rw [kn3] at h; exact h)) ?_
  rintro _ C9 ⟨rfl, hC9⟩
  refine TL.p (EvP.move rfl) ?_
  refine TL.p (EvP.extract rfl rfl) ?_
  refine TL.p (EvP.extract rfl rfl) ?_
  refine TL.p (EvP.assign rfl) ?_
  refine TL.p (EvP.assign rfl) ?_
  refine TL.nil ?_
  refine TX.thenN rfl rfl ?_
  refine TC.seq ?_
  refine TC.region ?_
  refine TL.p (EvP.move rfl) ?_
  refine TL.p (EvP.eq rfl rfl) ?_
  refine TL.p (EvP.move rfl) ?_
  refine TL.gY rfl rfl rfl ?_
  refine TL.p (EvP.move rfl) ?_
  refine TL.gY rfl rfl rfl ?_
  refine TL.p (EvP.eq rfl rfl) ?_
  refine TL.p (EvP.pickT rfl rfl) ?_
  refine TL.p (EvP.move rfl) ?_
  refine TL.gY rfl rfl rfl ?_
  refine TL.p (EvP.move rfl) ?_
  refine TL.gY rfl rfl rfl ?_
  refine TL.p (EvP.eq rfl rfl) ?_
  refine TL.p (EvP.pickT rfl rfl) ?_
  refine TL.p (EvP.move rfl) ?_
  refine TL.gY rfl rfl rfl ?_
  refine TL.p (EvP.move rfl) ?_
  refine TL.p (EvP.pickT rfl rfl) ?_
  refine TL.p (EvP.assign rfl) ?_
  refine TL.nil ?_
  refine TX.thenN rfl rfl ?_
  refine TC.ret ?_
  refine TX.done rfl (Res.one rfl rfl) (fun w hs => Post0.mk hs ?_ (by repeat (first | exact Le.refl _ | exact Le.nil _ | refine Le.hit ?_ | refine Le.hit1 ?_ | refine Le.hit2 ?_ | refine Le.hit3 ?_ | refine Le.hit4 ?_ | refine Le.hit5 ?_ | refine Le.hit6 ?_ | refine Le.hit7 ?_ | refine Le.hit8 ?_ | refine Le.hit9 ?_ | refine Le.hit10 ?_ | refine Le.skip ?_)))
  rfl

theorem step_spec {w0 w : World} {R : List Chunk} {L : List En} {g rr : Nat} {C Cr D : Chunk} (hT : Tabs w0) (hG : IsN L g C) (hR : RQ rr L Cr D) (o : NOp) (hst : St w0 w (C :: Cr :: D :: R)) : Calls Tryd.prog 8 #[.pointer (some ⟨g, 0, none⟩), .pointer (some ⟨rr, 0, none⟩), o.v] w (Post3 w0 R fun u C2 Cr2 D2 => u = .bool true ∧ IsN (stp L o) g C2 ∧ RQ rr (stp L o) Cr2 D2) := by
  have hok := hG.ok
  refine calls_of (args := [_, _, _]) Tryd.func8 rfl Tryd.ntmps8 hst ?_
  refine TC.seq ?_
  refine TC.region ?_
  refine TL.box rfl rfl (fun b5 => ?_)
  refine TL.p (EvP.assign rfl) ?_
  refine TL.nil ?_
  refine TX.thenN rfl rfl ?_
  refine TC.seq ?_
  refine TC.seq ?_
  refine TC.region ?_
  refine TL.p (EvP.fa (e := 0) rfl Tryd.runUnderlying31 rfl Tryd.sizeOf3 rfl) ?_
  refine TL.r (EvR.load rfl Tryd.isAgg3 (AtB.own (by repeat (first | exact Has.hd | refine Has.tlb ?_ | refine Has.tlc ?_))) (by rfl)) ?_
  refine TL.nil ?_
  refine TX.thenN rfl rfl ?_
  refine TC.block ?_
  refine TC.seq ?_
  refine TC.region ?_
  refine TL.dec (EvP.eq rfl rfl) (fun h22 => ?_) (fun h22 => ?_)
  · refine TL.p (EvP.assign rfl) ?_
    refine TL.nil ?_
    refine TX.thenN rfl rfl ?_
    refine TC.ctrue rfl ?_
    refine TC.seq ?_
    refine TC.drawn (listed := #[false, false, false, false, false, false, false, false, false, false, false, false, false, false]) 14 (SH w0 [[(b5, .cells o.enc.toArray 31 (0, 0))]]) rfl rfl rfl rfl (fun w hs => SH.of hs (by repeat (first | exact Le.refl _ | exact Le.nil _ | refine Le.hit ?_ | refine Le.hit1 ?_ | refine Le.hit2 ?_ | refine Le.hit3 ?_ | refine Le.hit4 ?_ | refine Le.hit5 ?_ | refine Le.hit6 ?_ | refine Le.hit7 ?_ | refine Le.hit8 ?_ | refine Le.hit9 ?_ | refine Le.hit10 ?_ | refine Le.skip ?_))) ?_
    refine TR.take 0 rfl (by kernel_rfl) (by kernel_rfl) (by kernel_rfl) (EvP.r (by exact EvP.move rfl)) (l' := #[true, false, false, false, false, false, false, false, false, false, false, false, false, false]) rfl ?_
    refine TR.take 1 rfl (by kernel_rfl) (by kernel_rfl) (by kernel_rfl) (EvP.r (by exact EvP.fa (e := 1) rfl Tryd.runUnderlying31 rfl Tryd.sizeOf9 rfl)) (l' := #[true, true, false, false, false, false, false, false, false, false, false, false, false, false]) rfl ?_
    refine TR.take 2 rfl (by kernel_rfl) (by kernel_rfl) (by kernel_rfl) (EvR.load rfl Tryd.isAgg9 (AtB.own' (by repeat (first | exact Has.hd | refine Has.tlb ?_ | refine Has.tlc ?_))) (by rfl)) (l' := #[true, true, true, false, false, false, false, false, false, false, false, false, false, false]) rfl ?_
    refine TR.take 3 rfl (by kernel_rfl) (by kernel_rfl) (by kernel_rfl) (EvP.r (by exact EvP.fa (e := 2) rfl Tryd.runUnderlying31 rfl Tryd.sizeOf2 rfl)) (l' := #[true, true, true, true, false, false, false, false, false, false, false, false, false, false]) rfl ?_
    refine TR.take 4 rfl (by kernel_rfl) (by kernel_rfl) (by kernel_rfl) (EvR.load rfl Tryd.isAgg2 (AtB.own' (by repeat (first | exact Has.hd | refine Has.tlb ?_ | refine Has.tlc ?_))) (by rfl)) (l' := #[true, true, true, true, true, false, false, false, false, false, false, false, false, false]) rfl ?_
    refine TR.take 6 rfl (by kernel_rfl) (by kernel_rfl) (by kernel_rfl) (EvP.r (by exact EvP.move rfl)) (l' := #[true, true, true, true, true, false, true, false, false, false, false, false, false, false]) rfl ?_
    refine TR.take 7 rfl (by kernel_rfl) (by kernel_rfl) (by kernel_rfl) (EvP.r (by exact EvP.fa (e := 1) rfl Tryd.runUnderlying31 rfl Tryd.sizeOf9 rfl)) (l' := #[true, true, true, true, true, false, true, true, false, false, false, false, false, false]) rfl ?_
    refine TR.take 8 rfl (by kernel_rfl) (by kernel_rfl) (by kernel_rfl) (EvR.load rfl Tryd.isAgg9 (AtB.own' (by repeat (first | exact Has.hd | refine Has.tlb ?_ | refine Has.tlc ?_))) (by rfl)) (l' := #[true, true, true, true, true, false, true, true, true, false, false, false, false, false]) rfl ?_
    refine TR.take 9 rfl (by kernel_rfl) (by kernel_rfl) (by kernel_rfl) (EvP.r (by exact EvP.fa (e := 2) rfl Tryd.runUnderlying31 rfl Tryd.sizeOf2 rfl)) (l' := #[true, true, true, true, true, false, true, true, true, true, false, false, false, false]) rfl ?_
    refine TR.take 10 rfl (by kernel_rfl) (by kernel_rfl) (by kernel_rfl) (EvR.load rfl Tryd.isAgg2 (AtB.own' (by repeat (first | exact Has.hd | refine Has.tlb ?_ | refine Has.tlc ?_))) (by rfl)) (l' := #[true, true, true, true, true, false, true, true, true, true, true, false, false, false]) rfl ?_
    refine TR.one (i := 5) (by kernel_rfl) ?_
    refine TRi.le (Le.hit1 (Le.refl _)) ?_
    refine TRi.call rfl rfl rfl Tryd.call13 (fun w hs => g_add hG hT o.n o.p hs) (l' := #[true, true, true, true, true, true, true, true, true, true, true, false, false, false]) rfl ?_
    rintro _ _ ⟨C2, rfl, rfl, hG2⟩
    refine ⟨(fun w hs => SH.of hs (by repeat (first | exact Le.refl _ | exact Le.nil _ | refine Le.hit ?_ | refine Le.hit1 ?_ | refine Le.hit2 ?_ | refine Le.hit3 ?_ | refine Le.hit4 ?_ | refine Le.hit5 ?_ | refine Le.hit6 ?_ | refine Le.hit7 ?_ | refine Le.hit8 ?_ | refine Le.hit9 ?_ | refine Le.hit10 ?_ | refine Le.skip ?_))), ?_⟩
    refine TR.one (i := 11) (by kernel_rfl) ?_
    refine TRi.le (Le.hit2 (Le.hit2 (Le.refl _))) ?_
    refine TRi.call rfl rfl rfl Tryd.call19 (fun w hs => r_add hR hok o.n o.p hs) (l' := #[true, true, true, true, true, true, true, true, true, true, true, true, false, false]) rfl ?_
    rintro _ _ ⟨Cr2, D2, rfl, rfl, hR2⟩
    refine ⟨(fun w hs => SH.of hs (by repeat (first | exact Le.refl _ | exact Le.nil _ | refine Le.hit ?_ | refine Le.hit1 ?_ | refine Le.hit2 ?_ | refine Le.hit3 ?_ | refine Le.hit4 ?_ | refine Le.hit5 ?_ | refine Le.hit6 ?_ | refine Le.hit7 ?_ | refine Le.hit8 ?_ | refine Le.hit9 ?_ | refine Le.hit10 ?_ | refine Le.skip ?_))), ?_⟩
    refine TR.take 12 rfl (by kernel_rfl) (by kernel_rfl) (by kernel_rfl) (EvP.r (by exact EvP.isT (EvP.eq rfl rfl) (rfl))) (l' := #[true, true, true, true, true, true, true, true, true, true, true, true, true, false]) rfl ?_
    refine TR.take 13 rfl (by kernel_rfl) (by kernel_rfl) (by kernel_rfl) (EvP.r (by exact EvP.assign rfl)) (l' := #[true, true, true, true, true, true, true, true, true, true, true, true, true, true]) rfl ?_
    refine TR.done (by kernel_rfl) ?_
    refine TX.thenN rfl rfl ?_
    refine TC.ret ?_
    refine TX.blkR ?_
    refine TX.thenR ?_
    refine TX.done rfl (Res.one rfl rfl) (fun w hs => Post3.mk (C := C2) (D := Cr2) (E := D2) hs ?_ (by repeat (first | exact Le.refl _ | exact Le.nil _ | refine Le.hit ?_ | refine Le.hit1 ?_ | refine Le.hit2 ?_ | refine Le.hit3 ?_ | refine Le.hit4 ?_ | refine Le.hit5 ?_ | refine Le.hit6 ?_ | refine Le.hit7 ?_ | refine Le.hit8 ?_ | refine Le.hit9 ?_ | refine Le.hit10 ?_ | refine Le.skip ?_)))
    rw [show stp L o = (add L o.n o.p).2 from by simp_all [stp]]
    exact ⟨rfl, hG2, hR2⟩
  · refine TL.p (EvP.assign rfl) ?_
    refine TL.nil ?_
    refine TX.thenN rfl rfl ?_
    refine TC.cfalse rfl ?_
    refine TC.seq ?_
    refine TC.region ?_
    refine TL.dec (EvP.eq rfl rfl) (fun h37 => ?_) (fun h37 => ?_)
    · refine TL.p (EvP.assign rfl) ?_
      refine TL.nil ?_
      refine TX.thenN rfl rfl ?_
      refine TC.ctrue rfl ?_
      refine TC.seq ?_
      refine TC.drawn (listed := #[false, false, false, false, false, false, false, false, false, false]) 10 (SH w0 [[(b5, .cells o.enc.toArray 31 (0, 0))]]) rfl rfl rfl rfl (fun w hs => SH.of hs (by repeat (first | exact Le.refl _ | exact Le.nil _ | refine Le.hit ?_ | refine Le.hit1 ?_ | refine Le.hit2 ?_ | refine Le.hit3 ?_ | refine Le.hit4 ?_ | refine Le.hit5 ?_ | refine Le.hit6 ?_ | refine Le.hit7 ?_ | refine Le.hit8 ?_ | refine Le.hit9 ?_ | refine Le.hit10 ?_ | refine Le.skip ?_))) ?_
      refine TR.take 0 rfl (by kernel_rfl) (by kernel_rfl) (by kernel_rfl) (EvP.r (by exact EvP.move rfl)) (l' := #[true, false, false, false, false, false, false, false, false, false]) rfl ?_
      refine TR.take 1 rfl (by kernel_rfl) (by kernel_rfl) (by kernel_rfl) (EvP.r (by exact EvP.fa (e := 1) rfl Tryd.runUnderlying31 rfl Tryd.sizeOf9 rfl)) (l' := #[true, true, false, false, false, false, false, false, false, false]) rfl ?_
      refine TR.take 2 rfl (by kernel_rfl) (by kernel_rfl) (by kernel_rfl) (EvR.load rfl Tryd.isAgg9 (AtB.own' (by repeat (first | exact Has.hd | refine Has.tlb ?_ | refine Has.tlc ?_))) (by rfl)) (l' := #[true, true, true, false, false, false, false, false, false, false]) rfl ?_
      refine TR.take 4 rfl (by kernel_rfl) (by kernel_rfl) (by kernel_rfl) (EvP.r (by exact EvP.move rfl)) (l' := #[true, true, true, false, true, false, false, false, false, false]) rfl ?_
      refine TR.take 5 rfl (by kernel_rfl) (by kernel_rfl) (by kernel_rfl) (EvP.r (by exact EvP.fa (e := 1) rfl Tryd.runUnderlying31 rfl Tryd.sizeOf9 rfl)) (l' := #[true, true, true, false, true, true, false, false, false, false]) rfl ?_
      refine TR.take 6 rfl (by kernel_rfl) (by kernel_rfl) (by kernel_rfl) (EvR.load rfl Tryd.isAgg9 (AtB.own' (by repeat (first | exact Has.hd | refine Has.tlb ?_ | refine Has.tlc ?_))) (by rfl)) (l' := #[true, true, true, false, true, true, true, false, false, false]) rfl ?_
      refine TR.one (i := 3) (by kernel_rfl) ?_
      refine TRi.le (Le.hit1 (Le.refl _)) ?_
      refine TRi.call rfl rfl rfl Tryd.call14 (fun w hs => g_drop hG o.n hs) (l' := #[true, true, true, true, true, true, true, false, false, false]) rfl ?_
      rintro _ _ ⟨C2, rfl, rfl, hG2⟩
      refine ⟨(fun w hs => SH.of hs (by repeat (first | exact Le.refl _ | exact Le.nil _ | refine Le.hit ?_ | refine Le.hit1 ?_ | refine Le.hit2 ?_ | refine Le.hit3 ?_ | refine Le.hit4 ?_ | refine Le.hit5 ?_ | refine Le.hit6 ?_ | refine Le.hit7 ?_ | refine Le.hit8 ?_ | refine Le.hit9 ?_ | refine Le.hit10 ?_ | refine Le.skip ?_))), ?_⟩
      refine TR.one (i := 7) (by kernel_rfl) ?_
      refine TRi.le (Le.hit2 (Le.hit2 (Le.refl _))) ?_
      refine TRi.call rfl rfl rfl Tryd.call20 (fun w hs => r_drop hR hok o.n hs) (l' := #[true, true, true, true, true, true, true, true, false, false]) rfl ?_
      rintro _ _ ⟨Cr2, D2, rfl, rfl, hR2⟩
      refine ⟨(fun w hs => SH.of hs (by repeat (first | exact Le.refl _ | exact Le.nil _ | refine Le.hit ?_ | refine Le.hit1 ?_ | refine Le.hit2 ?_ | refine Le.hit3 ?_ | refine Le.hit4 ?_ | refine Le.hit5 ?_ | refine Le.hit6 ?_ | refine Le.hit7 ?_ | refine Le.hit8 ?_ | refine Le.hit9 ?_ | refine Le.hit10 ?_ | refine Le.skip ?_))), ?_⟩
      refine TR.take 8 rfl (by kernel_rfl) (by kernel_rfl) (by kernel_rfl) (EvP.r (by exact EvP.isT (EvP.eq rfl rfl) (rfl))) (l' := #[true, true, true, true, true, true, true, true, true, false]) rfl ?_
      refine TR.take 9 rfl (by kernel_rfl) (by kernel_rfl) (by kernel_rfl) (EvP.r (by exact EvP.assign rfl)) (l' := #[true, true, true, true, true, true, true, true, true, true]) rfl ?_
      refine TR.done (by kernel_rfl) ?_
      refine TX.thenN rfl rfl ?_
      refine TC.ret ?_
      refine TX.blkR ?_
      refine TX.thenR ?_
      refine TX.done rfl (Res.one rfl rfl) (fun w hs => Post3.mk (C := C2) (D := Cr2) (E := D2) hs ?_ (by repeat (first | exact Le.refl _ | exact Le.nil _ | refine Le.hit ?_ | refine Le.hit1 ?_ | refine Le.hit2 ?_ | refine Le.hit3 ?_ | refine Le.hit4 ?_ | refine Le.hit5 ?_ | refine Le.hit6 ?_ | refine Le.hit7 ?_ | refine Le.hit8 ?_ | refine Le.hit9 ?_ | refine Le.hit10 ?_ | refine Le.skip ?_)))
      rw [show stp L o = (drp L o.n).2 from by simp_all [stp]]
      exact ⟨rfl, hG2, hR2⟩
    · refine TL.p (EvP.assign rfl) ?_
      refine TL.nil ?_
      refine TX.thenN rfl rfl ?_
      refine TC.cfalse rfl ?_
      refine TC.seq ?_
      refine TC.region ?_
      refine TL.dec (EvP.eq rfl rfl) (fun h48 => ?_) (fun h48 => ?_)
      · refine TL.p (EvP.assign rfl) ?_
        refine TL.nil ?_
        refine TX.thenN rfl rfl ?_
        refine TC.ctrue rfl ?_
        refine TC.seq ?_
        refine TC.region ?_
        refine TL.p (EvP.move rfl) ?_
        refine TL.p (EvP.fa (e := 2) rfl Tryd.runUnderlying31 rfl Tryd.sizeOf2 rfl) ?_
        refine TL.r (EvR.load rfl Tryd.isAgg2 (AtB.own (by repeat (first | exact Has.hd | refine Has.tlb ?_ | refine Has.tlc ?_))) (by rfl)) ?_
        refine TL.le (Le.hit1 (Le.refl _)) ?_
        refine TL.callB rfl rfl Tryd.call15 (fun w hs => g_gone hG o.p hs) ?_
        rintro _ C2 ⟨rfl, hG2⟩
        refine TL.p (EvP.move rfl) ?_
        refine TL.p (EvP.extract rfl rfl) ?_
        refine TL.p (EvP.extract rfl rfl) ?_
        refine TL.p (EvP.assign rfl) ?_
        refine TL.p (EvP.assign rfl) ?_
        refine TL.nil ?_
        refine TX.thenN rfl rfl ?_
        refine TC.seq ?_
        refine TC.region ?_
        refine TL.p (EvP.move rfl) ?_
        refine TL.p (EvP.fa (e := 2) rfl Tryd.runUnderlying31 rfl Tryd.sizeOf2 rfl) ?_
        refine TL.r (EvR.load rfl Tryd.isAgg2 (AtB.own (by repeat (first | exact Has.hd | refine Has.tlb ?_ | refine Has.tlc ?_))) (by rfl)) ?_
        refine TL.le (Le.hit2 (Le.hit2 (Le.refl _))) ?_
        refine TL.callC rfl rfl Tryd.call21 (fun w hs => r_gone hR hok o.p hs) ?_
        rintro _ Cr2 D2 ⟨rfl, hR2⟩
        refine TL.p (EvP.move rfl) ?_
        refine TL.p (EvP.extract rfl rfl) ?_
        refine TL.p (EvP.extract rfl rfl) ?_
        refine TL.p (EvP.assign rfl) ?_
        refine TL.p (EvP.assign rfl) ?_
        refine TL.nil ?_
        refine TX.thenN rfl rfl ?_
        refine TC.seq ?_
        refine TC.region ?_
        refine TL.p (EvP.move rfl) ?_
        refine TL.p (EvP.move rfl) ?_
        refine TL.p (EvP.isT (EvP.eqS rfl rfl) (rfl)) ?_
        refine TL.p (EvP.move rfl) ?_
        refine TL.gY rfl rfl rfl ?_
        refine TL.p (EvP.move rfl) ?_
        refine TL.gY rfl rfl rfl ?_
        refine TL.p (EvP.move rfl) ?_
        refine TL.gY rfl rfl rfl ?_
        refine TL.p (EvP.isV (EvP.eqBool Tryd.runUnderlying4 rfl rfl) (beq_same _)) ?_
        refine TL.p (EvP.pickT rfl rfl) ?_
        refine TL.p (EvP.assign rfl) ?_
        refine TL.nil ?_
        refine TX.thenN rfl rfl ?_
        refine TC.ret ?_
        refine TX.blkR ?_
        refine TX.thenR ?_
        refine TX.done rfl (Res.one rfl rfl) (fun w hs => Post3.mk (C := C2) (D := Cr2) (E := D2) hs ?_ (by repeat (first | exact Le.refl _ | exact Le.nil _ | refine Le.hit ?_ | refine Le.hit1 ?_ | refine Le.hit2 ?_ | refine Le.hit3 ?_ | refine Le.hit4 ?_ | refine Le.hit5 ?_ | refine Le.hit6 ?_ | refine Le.hit7 ?_ | refine Le.hit8 ?_ | refine Le.hit9 ?_ | refine Le.hit10 ?_ | refine Le.skip ?_)))
        rw [show stp L o = gonL L o.p from by simp_all [stp]]
        exact ⟨rfl, hG2, hR2⟩
      · refine TL.p (EvP.assign rfl) ?_
        refine TL.nil ?_
        refine TX.thenN rfl rfl ?_
        refine TC.cfalse rfl ?_
        refine TC.skip ?_
        refine TX.blkN ?_
        refine TX.thenN rfl rfl ?_
        refine TC.seq ?_
        refine TC.region ?_
        refine TL.p (EvP.move rfl) ?_
        refine TL.p (EvP.fa (e := 1) rfl Tryd.runUnderlying31 rfl Tryd.sizeOf9 rfl) ?_
        refine TL.r (EvR.load rfl Tryd.isAgg9 (AtB.own (by repeat (first | exact Has.hd | refine Has.tlb ?_ | refine Has.tlc ?_))) (by rfl)) ?_
        refine TL.le (Le.hit1 (Le.refl _)) ?_
        refine TL.callB rfl rfl Tryd.call16 (fun w hs => g_find hG o.n hs) ?_
        rintro _ C9 ⟨rfl, hC9⟩
        replace hC9 := hC9.symm
        subst hC9
        refine TL.p (EvP.move rfl) ?_
        refine TL.p (EvP.extract rfl rfl) ?_
        refine TL.p (EvP.extract rfl rfl) ?_
        refine TL.p (EvP.assign rfl) ?_
        refine TL.p (EvP.assign rfl) ?_
        refine TL.nil ?_
        refine TX.thenN rfl rfl ?_
        refine TC.seq ?_
        refine TC.region ?_
        refine TL.p (EvP.move rfl) ?_
        refine TL.p (EvP.fa (e := 1) rfl Tryd.runUnderlying31 rfl Tryd.sizeOf9 rfl) ?_
        refine TL.r (EvR.load rfl Tryd.isAgg9 (AtB.own (by repeat (first | exact Has.hd | refine Has.tlb ?_ | refine Has.tlc ?_))) (by rfl)) ?_
        refine TL.le (Le.hit2 (Le.hit2 (Le.refl _))) ?_
        refine TL.callC rfl rfl Tryd.call22 (fun w hs => r_find hR hok o.n hs) ?_
        rintro _ Cr2 D2 ⟨rfl, hR2⟩
        refine TL.p (EvP.move rfl) ?_
        refine TL.p (EvP.extract rfl rfl) ?_
        refine TL.p (EvP.extract rfl rfl) ?_
        refine TL.p (EvP.assign rfl) ?_
        refine TL.p (EvP.assign rfl) ?_
        refine TL.nil ?_
        refine TX.thenN rfl rfl ?_
        refine TC.seq ?_
        refine TC.region ?_
        refine TL.p (EvP.move rfl) ?_
        refine TL.p (EvP.fa (e := 2) rfl Tryd.runUnderlying31 rfl Tryd.sizeOf2 rfl) ?_
        refine TL.r (EvR.load rfl Tryd.isAgg2 (AtB.own (by repeat (first | exact Has.hd | refine Has.tlb ?_ | refine Has.tlc ?_))) (by rfl)) ?_
        refine TL.le (Le.hit2 (Le.refl _)) ?_
        refine TL.callB rfl rfl Tryd.call17 (fun w hs => g_name hG o.p hs) ?_
        rintro _ C9 ⟨rfl, hC9⟩
        replace hC9 := hC9.symm
        subst hC9
        refine TL.p (EvP.move rfl) ?_
        refine TL.p (EvP.extract rfl rfl) ?_
        refine TL.p (EvP.extract rfl rfl) ?_
        refine TL.p (EvP.assign rfl) ?_
        refine TL.p (EvP.assign rfl) ?_
        refine TL.nil ?_
        refine TX.thenN rfl rfl ?_
        refine TC.seq ?_
        refine TC.region ?_
        refine TL.p (EvP.move rfl) ?_
        refine TL.p (EvP.fa (e := 2) rfl Tryd.runUnderlying31 rfl Tryd.sizeOf2 rfl) ?_
        refine TL.r (EvR.load rfl Tryd.isAgg2 (AtB.own (by repeat (first | exact Has.hd | refine Has.tlb ?_ | refine Has.tlc ?_))) (by rfl)) ?_
        refine TL.le (Le.hit1 (Le.hit1 (Le.refl _))) ?_
        refine TL.callC rfl rfl Tryd.call23 (fun w hs => r_name hR2 hok o.p hs) ?_
        rintro _ Cr3 D3 ⟨rfl, hR3⟩
        refine TL.p (EvP.move rfl) ?_
        refine TL.p (EvP.extract rfl rfl) ?_
        refine TL.p (EvP.extract rfl rfl) ?_
        refine TL.p (EvP.assign rfl) ?_
        refine TL.p (EvP.assign rfl) ?_
        refine TL.nil ?_
        refine TX.thenN rfl rfl ?_
        refine TC.seq ?_
        refine TC.region ?_
        refine TL.p (EvP.move rfl) ?_
        refine TL.p (EvP.move rfl) ?_
        refine TL.p (EvP.isT (EvP.eq rfl rfl) (rfl)) ?_
        refine TL.p (EvP.move rfl) ?_
        refine TL.gY rfl rfl rfl ?_
        refine TL.p (EvP.move rfl) ?_
        refine TL.gY rfl rfl rfl ?_
        refine TL.p (EvP.move rfl) ?_
        refine TL.gY rfl rfl rfl ?_
        refine TL.p (EvP.isV (EvP.eqBool Tryd.runUnderlying4 rfl rfl) (beq_same _)) ?_
        refine TL.p (EvP.pickT rfl rfl) ?_
        refine TL.p (EvP.move rfl) ?_
        refine TL.gY rfl rfl rfl ?_
        refine TL.p (EvP.move rfl) ?_
        refine TL.gY rfl rfl rfl ?_
        refine TL.p (EvP.move rfl) ?_
        refine TL.gY rfl rfl rfl ?_
        refine TL.p (EvP.isT (EvP.eqS rfl rfl) (rfl)) ?_
        refine TL.p (EvP.pickT rfl rfl) ?_
        refine TL.p (EvP.move rfl) ?_
        refine TL.gY rfl rfl rfl ?_
        refine TL.p (EvP.move rfl) ?_
        refine TL.gY rfl rfl rfl ?_
        refine TL.p (EvP.move rfl) ?_
        refine TL.gY rfl rfl rfl ?_
        refine TL.p (EvP.isV (EvP.eqBool Tryd.runUnderlying4 rfl rfl) (beq_same _)) ?_
        refine TL.p (EvP.pickT rfl rfl) ?_
        refine TL.p (EvP.assign rfl) ?_
        refine TL.nil ?_
        refine TX.thenN rfl rfl ?_
        refine TC.ret ?_
        refine TX.done rfl (Res.one rfl rfl) (fun w hs => Post3.mk (C := C) (D := Cr3) (E := D3) hs ?_ (by repeat (first | exact Le.refl _ | exact Le.nil _ | refine Le.hit ?_ | refine Le.hit1 ?_ | refine Le.hit2 ?_ | refine Le.hit3 ?_ | refine Le.hit4 ?_ | refine Le.hit5 ?_ | refine Le.hit6 ?_ | refine Le.hit7 ?_ | refine Le.hit8 ?_ | refine Le.hit9 ?_ | refine Le.hit10 ?_ | refine Le.skip ?_)))
        rw [show stp L o = L from by simp_all [stp]]
        exact ⟨rfl, hG, hR3⟩

theorem plays_walk {w0 w : World} {R : List Chunk} (hT : Tabs w0) {v : Value} {ops : List NOp} (he : Els (fun w => w = w0) v 3 NOp.enc 31 ops) (hsz : ops.length < 4611686018427387904) (hst : St w0 w R) : Calls Tryd.prog 3 #[v] w (Post0 w0 R fun u => u = .bool true) := by
  obtain ⟨⟨a0, cap, rfl⟩, he2⟩ := id he
  refine calls_of (args := [_]) Tryd.func3 rfl Tryd.ntmps3 hst ?_
  refine TC.seq ?_
  refine TC.region ?_
  refine TL.p (EvP.assign rfl) ?_
  refine TL.nil ?_
  refine TX.thenN rfl rfl ?_
  refine TC.seq ?_
  refine TC.region ?_
  refine TL.callB rfl rfl Tryd.call7 (fun w hs => new_spec hs) ?_
  rintro _ C ⟨g, rfl, hG⟩
  refine TL.p (EvP.assign rfl) ?_
  refine TL.nil ?_
  refine TX.thenN rfl rfl ?_
  refine TC.seq ?_
  refine TC.seq ?_
  refine TC.region ?_
  refine TL.p (EvP.move rfl) ?_
  refine TL.p (EvP.eqPtrNil Tryd.runUnderlying23 rfl rfl) ?_
  refine TL.nil ?_
  refine TX.thenN rfl rfl ?_
  refine TC.cfalse rfl ?_
  refine TC.skip ?_
  refine TX.thenN rfl rfl ?_
  refine TC.seq ?_
  refine TC.region ?_
  refine TL.p (EvP.buildS (is := []) (xs := []) rfl Tryd.runUnderlying28 Tryd.zeroValue28 rfl (.cons Tryd.sizeOf26 .nil) rfl rfl rfl) ?_
  refine TL.box rfl rfl (fun b11 => ?_)
  refine TL.le (Le.hit Le.nilC) ?_
  refine TL.p (EvP.assign rfl) ?_
  refine TL.nil ?_
  refine TX.thenN rfl rfl ?_
  refine TC.seq ?_
  refine TC.seq ?_
  refine TC.region ?_
  refine TL.p (EvP.assign rfl) ?_
  refine TL.nil ?_
  refine TX.thenN rfl rfl ?_
  refine TC.block ?_
  refine TC.loop (ι := Nat × List En × Chunk × Chunk × Chunk) (fun (i, L, C, Cr, D) => [(3, .pointer (some ⟨g, 0, none⟩)), (4, .pointer (some ⟨b11, 0, none⟩)), (0, .slice a0 ops.length cap), (5, .int .i64 i)]) (fun (i, L, C, Cr, D) => C :: Cr :: D :: R) (fun (i, L, C, Cr, D) => i ≤ ops.length ∧ IsN L g C ∧ RQ b11 L Cr D) (fun (i, L, C, Cr, D) => ops.length - i) ((0, [], C, [(b11, .cells [.slice none 0 0].toArray 28 (0, 0))], [])) (⟨by omega, hG, _, rfl, Sl.nil⟩) ⟨rfl, rfl, rfl, rfl, trivial⟩ (by repeat (first | exact Le.refl _ | exact Le.nil _ | refine Le.hit ?_ | refine Le.hit1 ?_ | refine Le.hit2 ?_ | refine Le.hit3 ?_ | refine Le.hit4 ?_ | refine Le.hit5 ?_ | refine Le.hit6 ?_ | refine Le.hit7 ?_ | refine Le.hit8 ?_ | refine Le.hit9 ?_ | refine Le.hit10 ?_ | refine Le.skip ?_)) ?_
  rintro ⟨i, L, C, Cr, D⟩ ⟨hi, hG, hR⟩
  change TC _ _ [(3, .pointer (some ⟨g, 0, none⟩)), (4, .pointer (some ⟨b11, 0, none⟩)), (0, .slice a0 ops.length cap), (5, .int .i64 i)] (C :: Cr :: D :: R) _
  have hok := hG.ok
  have hll := hok.len
  obtain ⟨a3, c3, rfl, hv2⟩ := hR.open_
  change TC _ _ _ (C :: [(b11, .cells [.slice a3 L.length c3].toArray 28 (0, 0))] :: D :: R) _
  refine TC.seq ?_
  refine TC.seq ?_
  refine TC.region ?_
  refine TL.p (EvP.move rfl) ?_
  refine TL.p (EvP.move rfl) ?_
  refine TL.p (EvP.lenS Tryd.runUnderlying22 rfl) ?_
  refine TL.dec (EvP.lt rfl rfl) (fun h15 => ?_) (fun h15 => ?_)
  · refine TL.nil ?_
    refine TX.thenN rfl rfl ?_
    refine TC.ctrue rfl ?_
    refine TC.skip ?_
    refine TX.thenN rfl rfl ?_
    refine TC.seq ?_
    refine TC.block ?_
    refine TC.seq ?_
    refine TC.drawn (listed := #[false, false, false, false, false, false, false, false, false, false, false, false, false, false, false, false, false, false, false, false, false, false, false, false, false, false, false, false]) 28 (SH w0 []) rfl rfl rfl rfl (fun w hs => SH.of hs (by repeat (first | exact Le.refl _ | exact Le.nil _ | refine Le.hit ?_ | refine Le.hit1 ?_ | refine Le.hit2 ?_ | refine Le.hit3 ?_ | refine Le.hit4 ?_ | refine Le.hit5 ?_ | refine Le.hit6 ?_ | refine Le.hit7 ?_ | refine Le.hit8 ?_ | refine Le.hit9 ?_ | refine Le.hit10 ?_ | refine Le.skip ?_))) ?_
    refine TR.take 0 rfl (by kernel_rfl) (by kernel_rfl) (by kernel_rfl) (EvP.r (by exact EvP.move rfl)) (l' := #[true, false, false, false, false, false, false, false, false, false, false, false, false, false, false, false, false, false, false, false, false, false, false, false, false, false, false, false]) rfl ?_
    refine TR.take 1 rfl (by kernel_rfl) (by kernel_rfl) (by kernel_rfl) (EvP.r (by exact EvP.move rfl)) (l' := #[true, true, false, false, false, false, false, false, false, false, false, false, false, false, false, false, false, false, false, false, false, false, false, false, false, false, false, false]) rfl ?_
    refine TR.take 2 rfl (by kernel_rfl) (by kernel_rfl) (by kernel_rfl) (EvP.r (by exact EvP.move rfl)) (l' := #[true, true, true, false, false, false, false, false, false, false, false, false, false, false, false, false, false, false, false, false, false, false, false, false, false, false, false, false]) rfl ?_
    refine TR.take 3 rfl (by kernel_rfl) (by kernel_rfl) (by kernel_rfl) (EvP.r (by exact EvP.move rfl)) (l' := #[true, true, true, true, false, false, false, false, false, false, false, false, false, false, false, false, false, false, false, false, false, false, false, false, false, false, false, false]) rfl ?_
    have hlt : i < ops.length := by omega
    obtain ⟨o, hx⟩ : ∃ o, ops[i]? = some o := ⟨_, List.getElem?_eq_getElem hlt⟩
    obtain ⟨bE, oE, nE, kE, lE, TE, fzE, qE, hjE, hbE, hcE⟩ := he2 i o hx
    have hbE2 := hbE w0 rfl
    cases qE
    refine TR.take 4 rfl (by kernel_rfl) (by kernel_rfl) (by kernel_rfl) (EvP.r (by exact EvP.ix (j := (i : Int)) Tryd.runUnderlying22 Tryd.sizeOf31 rfl rfl ⟨by omega, by omega⟩)) (l' := #[true, true, true, true, true, false, false, false, false, false, false, false, false, false, false, false, false, false, false, false, false, false, false, false, false, false, false, false]) rfl ?_
    refine TR.take 5 rfl (by kernel_rfl) (by kernel_rfl) (by kernel_rfl) (EvR.loadN (vs := [_, _, _]) rfl Tryd.isAgg31 Tryd.sizeOf31 (AtB.old' hbE2) hcE) (l' := #[true, true, true, true, true, true, false, false, false, false, false, false, false, false, false, false, false, false, false, false, false, false, false, false, false, false, false, false]) rfl ?_
    refine TR.one (i := 6) (by kernel_rfl) ?_
    refine TRi.call rfl rfl rfl Tryd.call8 (fun w hs => step_spec hT hG ⟨_, rfl, hv2⟩ o hs) (l' := #[true, true, true, true, true, true, true, false, false, false, false, false, false, false, false, false, false, false, false, false, false, false, false, false, false, false, false, false]) rfl ?_
    rintro _ _ ⟨C2, Cr2, D2, rfl, rfl, hG2, hR2⟩
    obtain ⟨a4, c4, rfl, hv3⟩ := hR2.open_
    have hok2 := hG2.ok
    have hl2 := hok2.len
    refine ⟨(fun w hs => SH.of hs (by repeat (first | exact Le.refl _ | exact Le.nil _ | refine Le.hit ?_ | refine Le.hit1 ?_ | refine Le.hit2 ?_ | refine Le.hit3 ?_ | refine Le.hit4 ?_ | refine Le.hit5 ?_ | refine Le.hit6 ?_ | refine Le.hit7 ?_ | refine Le.hit8 ?_ | refine Le.hit9 ?_ | refine Le.hit10 ?_ | refine Le.skip ?_))), ?_⟩
    refine TR.take 7 rfl (by kernel_rfl) (by kernel_rfl) (by kernel_rfl) (EvP.r (by exact EvP.not rfl)) (l' := #[true, true, true, true, true, true, true, true, false, false, false, false, false, false, false, false, false, false, false, false, false, false, false, false, false, false, false, false]) rfl ?_
    refine TR.take 8 rfl (by kernel_rfl) (by kernel_rfl) (by kernel_rfl) (EvP.r (by exact EvP.move rfl)) (l' := #[true, true, true, true, true, true, true, true, true, false, false, false, false, false, false, false, false, false, false, false, false, false, false, false, false, false, false, false]) rfl ?_
    refine TR.takeY 9 rfl rfl rfl rfl (by kernel_rfl) (by kernel_rfl) (by kernel_rfl) (EvP.r (by exact EvP.move rfl)) (l' := #[true, true, true, true, true, true, true, true, true, true, false, false, false, false, false, false, false, false, false, false, false, false, false, false, false, false, false, false]) rfl ?_
    refine TR.takeY 11 rfl rfl rfl rfl (by kernel_rfl) (by kernel_rfl) (by kernel_rfl) (EvP.r (by exact EvP.move rfl)) (l' := #[true, true, true, true, true, true, true, true, true, true, false, true, false, false, false, false, false, false, false, false, false, false, false, false, false, false, false, false]) rfl ?_
    refine TR.takeY 12 rfl rfl rfl rfl (by kernel_rfl) (by kernel_rfl) (by kernel_rfl) (EvP.r (by exact EvP.nilP rfl)) (l' := #[true, true, true, true, true, true, true, true, true, true, false, true, true, false, false, false, false, false, false, false, false, false, false, false, false, false, false, false]) rfl ?_
    refine TR.takeY 13 rfl rfl rfl rfl (by kernel_rfl) (by kernel_rfl) (by kernel_rfl) (EvP.r (by exact EvP.fa (e := 0) rfl Tryd.runUnderlying28 rfl Tryd.sizeOf26 rfl)) (l' := #[true, true, true, true, true, true, true, true, true, true, false, true, true, true, false, false, false, false, false, false, false, false, false, false, false, false, false, false]) rfl ?_
    refine TR.two (i := 10) (j := 14) (by kernel_rfl) ?_ ?_
    · refine TRi.callG rfl rfl rfl rfl rfl rfl Tryd.call9 (fun w hs => g_len hG2 hs) (l' := #[true, true, true, true, true, true, true, true, true, true, true, true, true, true, false, false, false, false, false, false, false, false, false, false, false, false, false, false]) rfl ?_
      rintro _ _ ⟨C9, rfl, rfl, hC9⟩
      replace hC9 := hC9.symm
      subst hC9
      refine ⟨(fun w hs => SH.of hs (by repeat (first | exact Le.refl _ | exact Le.nil _ | refine Le.hit ?_ | refine Le.hit1 ?_ | refine Le.hit2 ?_ | refine Le.hit3 ?_ | refine Le.hit4 ?_ | refine Le.hit5 ?_ | refine Le.hit6 ?_ | refine Le.hit7 ?_ | refine Le.hit8 ?_ | refine Le.hit9 ?_ | refine Le.hit10 ?_ | refine Le.skip ?_))), ?_⟩
      refine TR.one (i := 14) (by kernel_rfl) ?_
      refine TRi.rG rfl rfl rfl rfl (EvR.load rfl Tryd.isAgg26 (AtB.own (by repeat (first | exact Has.hd | refine Has.tlb ?_ | refine Has.tlc ?_))) (by rfl)) ((fun w hs => SH.of hs (by repeat (first | exact Le.refl _ | exact Le.nil _ | refine Le.hit ?_ | refine Le.hit1 ?_ | refine Le.hit2 ?_ | refine Le.hit3 ?_ | refine Le.hit4 ?_ | refine Le.hit5 ?_ | refine Le.hit6 ?_ | refine Le.hit7 ?_ | refine Le.hit8 ?_ | refine Le.hit9 ?_ | refine Le.hit10 ?_ | refine Le.skip ?_)))) (l' := #[true, true, true, true, true, true, true, true, true, true, true, true, true, true, true, false, false, false, false, false, false, false, false, false, false, false, false, false]) rfl ?_
      refine TR.takeY 15 rfl rfl rfl rfl (by kernel_rfl) (by kernel_rfl) (by kernel_rfl) (EvP.r (by exact EvP.lenS Tryd.runUnderlying26 rfl)) (l' := #[true, true, true, true, true, true, true, true, true, true, true, true, true, true, true, true, false, false, false, false, false, false, false, false, false, false, false, false]) rfl ?_
      refine TR.takeY 16 rfl rfl rfl rfl (by kernel_rfl) (by kernel_rfl) (by kernel_rfl) (EvP.r (by exact EvP.isF (EvP.ne rfl rfl) (by simp))) (l' := #[true, true, true, true, true, true, true, true, true, true, true, true, true, true, true, true, true, false, false, false, false, false, false, false, false, false, false, false]) rfl ?_
      refine TR.take 17 rfl (by kernel_rfl) (by kernel_rfl) (by kernel_rfl) (EvP.r (by exact EvP.pickF rfl rfl)) (l' := #[true, true, true, true, true, true, true, true, true, true, true, true, true, true, true, true, true, true, false, false, false, false, false, false, false, false, false, false]) rfl ?_
      refine TR.take 18 rfl (by kernel_rfl) (by kernel_rfl) (by kernel_rfl) (EvP.r (by exact EvP.move rfl)) (l' := #[true, true, true, true, true, true, true, true, true, true, true, true, true, true, true, true, true, true, true, false, false, false, false, false, false, false, false, false]) rfl ?_
      refine TR.takeY 19 rfl rfl rfl rfl (by kernel_rfl) (by kernel_rfl) (by kernel_rfl) (EvP.r (by exact EvP.move rfl)) (l' := #[true, true, true, true, true, true, true, true, true, true, true, true, true, true, true, true, true, true, true, true, false, false, false, false, false, false, false, false]) rfl ?_
      refine TR.takeY 21 rfl rfl rfl rfl (by kernel_rfl) (by kernel_rfl) (by kernel_rfl) (EvP.r (by exact EvP.move rfl)) (l' := #[true, true, true, true, true, true, true, true, true, true, true, true, true, true, true, true, true, true, true, true, false, true, false, false, false, false, false, false]) rfl ?_
      refine TR.takeY 22 rfl rfl rfl rfl (by kernel_rfl) (by kernel_rfl) (by kernel_rfl) (EvP.r (by exact EvP.nilP rfl)) (l' := #[true, true, true, true, true, true, true, true, true, true, true, true, true, true, true, true, true, true, true, true, false, true, true, false, false, false, false, false]) rfl ?_
      refine TR.takeY 23 rfl rfl rfl rfl (by kernel_rfl) (by kernel_rfl) (by kernel_rfl) (EvP.r (by exact EvP.fa (e := 0) rfl Tryd.runUnderlying28 rfl Tryd.sizeOf26 rfl)) (l' := #[true, true, true, true, true, true, true, true, true, true, true, true, true, true, true, true, true, true, true, true, false, true, true, true, false, false, false, false]) rfl ?_
      refine TR.two (i := 20) (j := 24) (by kernel_rfl) ?_ ?_
      · refine TRi.callG rfl rfl rfl rfl rfl rfl Tryd.call11 (fun w hs => g_all hG2 0 hs) (l' := #[true, true, true, true, true, true, true, true, true, true, true, true, true, true, true, true, true, true, true, true, true, true, true, true, false, false, false, false]) rfl ?_
        rintro _ _ ⟨E, rfl, hu⟩
        rw [cut_0] at hu
        refine ⟨(fun w hs => SH.of hs (by repeat (first | exact Le.refl _ | exact Le.nil _ | refine Le.hit ?_ | refine Le.hit1 ?_ | refine Le.hit2 ?_ | refine Le.hit3 ?_ | refine Le.hit4 ?_ | refine Le.hit5 ?_ | refine Le.hit6 ?_ | refine Le.hit7 ?_ | refine Le.hit8 ?_ | refine Le.hit9 ?_ | refine Le.hit10 ?_ | refine Le.skip ?_))), ?_⟩
        refine TR.one (i := 24) (by kernel_rfl) ?_
        refine TRi.rG rfl rfl rfl rfl (EvR.load rfl Tryd.isAgg26 (AtB.own (by repeat (first | exact Has.hd | refine Has.tlb ?_ | refine Has.tlc ?_))) (by rfl)) ((fun w hs => SH.of hs (by repeat (first | exact Le.refl _ | exact Le.nil _ | refine Le.hit ?_ | refine Le.hit1 ?_ | refine Le.hit2 ?_ | refine Le.hit3 ?_ | refine Le.hit4 ?_ | refine Le.hit5 ?_ | refine Le.hit6 ?_ | refine Le.hit7 ?_ | refine Le.hit8 ?_ | refine Le.hit9 ?_ | refine Le.hit10 ?_ | refine Le.skip ?_)))) (l' := #[true, true, true, true, true, true, true, true, true, true, true, true, true, true, true, true, true, true, true, true, true, true, true, true, true, false, false, false]) rfl ?_
        refine TR.one (i := 25) (by kernel_rfl) ?_
        refine TRi.callG rfl rfl rfl rfl rfl rfl Tryd.call10 (fun w hs => same_spec (hu.els encN_ok (by simp)) (hv3.els encN_ok (by simp)) (by omega) hs) (l' := #[true, true, true, true, true, true, true, true, true, true, true, true, true, true, true, true, true, true, true, true, true, true, true, true, true, true, false, false]) rfl ?_
        rintro _ _ ⟨rfl, rfl⟩
        refine ⟨(fun w hs => SH.of hs (by repeat (first | exact Le.refl _ | exact Le.nil _ | refine Le.hit ?_ | refine Le.hit1 ?_ | refine Le.hit2 ?_ | refine Le.hit3 ?_ | refine Le.hit4 ?_ | refine Le.hit5 ?_ | refine Le.hit6 ?_ | refine Le.hit7 ?_ | refine Le.hit8 ?_ | refine Le.hit9 ?_ | refine Le.hit10 ?_ | refine Le.skip ?_))), ?_⟩
        refine TR.takeY 26 rfl rfl rfl rfl (by kernel_rfl) (by kernel_rfl) (by kernel_rfl) (EvP.r (by exact EvP.not rfl)) (l' := #[true, true, true, true, true, true, true, true, true, true, true, true, true, true, true, true, true, true, true, true, true, true, true, true, true, true, true, false]) rfl ?_
        refine TR.take 27 rfl (by kernel_rfl) (by kernel_rfl) (by kernel_rfl) (EvP.r (by exact EvP.pickF rfl rfl)) (l' := #[true, true, true, true, true, true, true, true, true, true, true, true, true, true, true, true, true, true, true, true, true, true, true, true, true, true, true, true]) rfl ?_
        refine TR.done (by kernel_rfl) ?_
        refine TX.thenN rfl rfl ?_
        refine TC.cfalse rfl ?_
        refine TC.skip ?_
        refine TX.blkN ?_
        refine TX.thenN rfl rfl ?_
        refine TC.region ?_
        refine TL.p (EvP.move rfl) ?_
        refine TL.p (EvP.add rfl rfl (by omega)) ?_
        refine TL.p (EvP.assign rfl) ?_
        refine TL.nil ?_
        refine TX.back ((i + 1, _, C2, _, D2)) (⟨by omega, hG2, ⟨_, rfl, hv3⟩⟩) (by simp only; omega) ⟨rfl, rfl, rfl, rfl, trivial⟩ (by repeat (first | exact Le.refl _ | exact Le.nil _ | refine Le.hit ?_ | refine Le.hit1 ?_ | refine Le.hit2 ?_ | refine Le.hit3 ?_ | refine Le.hit4 ?_ | refine Le.hit5 ?_ | refine Le.hit6 ?_ | refine Le.hit7 ?_ | refine Le.hit8 ?_ | refine Le.hit9 ?_ | refine Le.hit10 ?_ | refine Le.skip ?_))
      · refine TRi.rG rfl rfl rfl rfl (EvR.load rfl Tryd.isAgg26 (AtB.own (by repeat (first | exact Has.hd | refine Has.tlb ?_ | refine Has.tlc ?_))) (by rfl)) ((fun w hs => SH.of hs (by repeat (first | exact Le.refl _ | exact Le.nil _ | refine Le.hit ?_ | refine Le.hit1 ?_ | refine Le.hit2 ?_ | refine Le.hit3 ?_ | refine Le.hit4 ?_ | refine Le.hit5 ?_ | refine Le.hit6 ?_ | refine Le.hit7 ?_ | refine Le.hit8 ?_ | refine Le.hit9 ?_ | refine Le.hit10 ?_ | refine Le.skip ?_)))) (l' := #[true, true, true, true, true, true, true, true, true, true, true, true, true, true, true, true, true, true, true, true, false, true, true, true, true, false, false, false]) rfl ?_
        refine TR.one (i := 20) (by kernel_rfl) ?_
        refine TRi.callG rfl rfl rfl rfl rfl rfl Tryd.call11 (fun w hs => g_all hG2 0 hs) (l' := #[true, true, true, true, true, true, true, true, true, true, true, true, true, true, true, true, true, true, true, true, true, true, true, true, true, false, false, false]) rfl ?_
        rintro _ _ ⟨E, rfl, hu⟩
        rw [cut_0] at hu
        refine ⟨(fun w hs => SH.of hs (by repeat (first | exact Le.refl _ | exact Le.nil _ | refine Le.hit ?_ | refine Le.hit1 ?_ | refine Le.hit2 ?_ | refine Le.hit3 ?_ | refine Le.hit4 ?_ | refine Le.hit5 ?_ | refine Le.hit6 ?_ | refine Le.hit7 ?_ | refine Le.hit8 ?_ | refine Le.hit9 ?_ | refine Le.hit10 ?_ | refine Le.skip ?_))), ?_⟩
        refine TR.one (i := 25) (by kernel_rfl) ?_
        refine TRi.callG rfl rfl rfl rfl rfl rfl Tryd.call10 (fun w hs => same_spec (hu.els encN_ok (by simp)) (hv3.els encN_ok (by simp)) (by omega) hs) (l' := #[true, true, true, true, true, true, true, true, true, true, true, true, true, true, true, true, true, true, true, true, true, true, true, true, true, true, false, false]) rfl ?_
        rintro _ _ ⟨rfl, rfl⟩
        refine ⟨(fun w hs => SH.of hs (by repeat (first | exact Le.refl _ | exact Le.nil _ | refine Le.hit ?_ | refine Le.hit1 ?_ | refine Le.hit2 ?_ | refine Le.hit3 ?_ | refine Le.hit4 ?_ | refine Le.hit5 ?_ | refine Le.hit6 ?_ | refine Le.hit7 ?_ | refine Le.hit8 ?_ | refine Le.hit9 ?_ | refine Le.hit10 ?_ | refine Le.skip ?_))), ?_⟩
        refine TR.takeY 26 rfl rfl rfl rfl (by kernel_rfl) (by kernel_rfl) (by kernel_rfl) (EvP.r (by exact EvP.not rfl)) (l' := #[true, true, true, true, true, true, true, true, true, true, true, true, true, true, true, true, true, true, true, true, true, true, true, true, true, true, true, false]) rfl ?_
        refine TR.take 27 rfl (by kernel_rfl) (by kernel_rfl) (by kernel_rfl) (EvP.r (by exact EvP.pickF rfl rfl)) (l' := #[true, true, true, true, true, true, true, true, true, true, true, true, true, true, true, true, true, true, true, true, true, true, true, true, true, true, true, true]) rfl ?_
        refine TR.done (by kernel_rfl) ?_
        refine TX.thenN rfl rfl ?_
        refine TC.cfalse rfl ?_
        refine TC.skip ?_
        refine TX.blkN ?_
        refine TX.thenN rfl rfl ?_
        refine TC.region ?_
        refine TL.p (EvP.move rfl) ?_
        refine TL.p (EvP.add rfl rfl (by omega)) ?_
        refine TL.p (EvP.assign rfl) ?_
        refine TL.nil ?_
        refine TX.back ((i + 1, _, C2, _, D2)) (⟨by omega, hG2, ⟨_, rfl, hv3⟩⟩) (by simp only; omega) ⟨rfl, rfl, rfl, rfl, trivial⟩ (by repeat (first | exact Le.refl _ | exact Le.nil _ | refine Le.hit ?_ | refine Le.hit1 ?_ | refine Le.hit2 ?_ | refine Le.hit3 ?_ | refine Le.hit4 ?_ | refine Le.hit5 ?_ | refine Le.hit6 ?_ | refine Le.hit7 ?_ | refine Le.hit8 ?_ | refine Le.hit9 ?_ | refine Le.hit10 ?_ | refine Le.skip ?_))
    · refine TRi.rG rfl rfl rfl rfl (EvR.load rfl Tryd.isAgg26 (AtB.own (by repeat (first | exact Has.hd | refine Has.tlb ?_ | refine Has.tlc ?_))) (by rfl)) ((fun w hs => SH.of hs (by repeat (first | exact Le.refl _ | exact Le.nil _ | refine Le.hit ?_ | refine Le.hit1 ?_ | refine Le.hit2 ?_ | refine Le.hit3 ?_ | refine Le.hit4 ?_ | refine Le.hit5 ?_ | refine Le.hit6 ?_ | refine Le.hit7 ?_ | refine Le.hit8 ?_ | refine Le.hit9 ?_ | refine Le.hit10 ?_ | refine Le.skip ?_)))) (l' := #[true, true, true, true, true, true, true, true, true, true, false, true, true, true, true, false, false, false, false, false, false, false, false, false, false, false, false, false]) rfl ?_
      refine TR.takeY 15 rfl rfl rfl rfl (by kernel_rfl) (by kernel_rfl) (by kernel_rfl) (EvP.r (by exact EvP.lenS Tryd.runUnderlying26 rfl)) (l' := #[true, true, true, true, true, true, true, true, true, true, false, true, true, true, true, true, false, false, false, false, false, false, false, false, false, false, false, false]) rfl ?_
      refine TR.one (i := 10) (by kernel_rfl) ?_
      refine TRi.callG rfl rfl rfl rfl rfl rfl Tryd.call9 (fun w hs => g_len hG2 hs) (l' := #[true, true, true, true, true, true, true, true, true, true, true, true, true, true, true, true, false, false, false, false, false, false, false, false, false, false, false, false]) rfl ?_
      rintro _ _ ⟨C9, rfl, rfl, hC9⟩
      replace hC9 := hC9.symm
      subst hC9
      refine ⟨(fun w hs => SH.of hs (by repeat (first | exact Le.refl _ | exact Le.nil _ | refine Le.hit ?_ | refine Le.hit1 ?_ | refine Le.hit2 ?_ | refine Le.hit3 ?_ | refine Le.hit4 ?_ | refine Le.hit5 ?_ | refine Le.hit6 ?_ | refine Le.hit7 ?_ | refine Le.hit8 ?_ | refine Le.hit9 ?_ | refine Le.hit10 ?_ | refine Le.skip ?_))), ?_⟩
      refine TR.takeY 16 rfl rfl rfl rfl (by kernel_rfl) (by kernel_rfl) (by kernel_rfl) (EvP.r (by exact EvP.isF (EvP.ne rfl rfl) (by simp))) (l' := #[true, true, true, true, true, true, true, true, true, true, true, true, true, true, true, true, true, false, false, false, false, false, false, false, false, false, false, false]) rfl ?_
      refine TR.take 17 rfl (by kernel_rfl) (by kernel_rfl) (by kernel_rfl) (EvP.r (by exact EvP.pickF rfl rfl)) (l' := #[true, true, true, true, true, true, true, true, true, true, true, true, true, true, true, true, true, true, false, false, false, false, false, false, false, false, false, false]) rfl ?_
      refine TR.take 18 rfl (by kernel_rfl) (by kernel_rfl) (by kernel_rfl) (EvP.r (by exact EvP.move rfl)) (l' := #[true, true, true, true, true, true, true, true, true, true, true, true, true, true, true, true, true, true, true, false, false, false, false, false, false, false, false, false]) rfl ?_
      refine TR.takeY 19 rfl rfl rfl rfl (by kernel_rfl) (by kernel_rfl) (by kernel_rfl) (EvP.r (by exact EvP.move rfl)) (l' := #[true, true, true, true, true, true, true, true, true, true, true, true, true, true, true, true, true, true, true, true, false, false, false, false, false, false, false, false]) rfl ?_
      refine TR.takeY 21 rfl rfl rfl rfl (by kernel_rfl) (by kernel_rfl) (by kernel_rfl) (EvP.r (by exact EvP.move rfl)) (l' := #[true, true, true, true, true, true, true, true, true, true, true, true, true, true, true, true, true, true, true, true, false, true, false, false, false, false, false, false]) rfl ?_
      refine TR.takeY 22 rfl rfl rfl rfl (by kernel_rfl) (by kernel_rfl) (by kernel_rfl) (EvP.r (by exact EvP.nilP rfl)) (l' := #[true, true, true, true, true, true, true, true, true, true, true, true, true, true, true, true, true, true, true, true, false, true, true, false, false, false, false, false]) rfl ?_
      refine TR.takeY 23 rfl rfl rfl rfl (by kernel_rfl) (by kernel_rfl) (by kernel_rfl) (EvP.r (by exact EvP.fa (e := 0) rfl Tryd.runUnderlying28 rfl Tryd.sizeOf26 rfl)) (l' := #[true, true, true, true, true, true, true, true, true, true, true, true, true, true, true, true, true, true, true, true, false, true, true, true, false, false, false, false]) rfl ?_
      refine TR.two (i := 20) (j := 24) (by kernel_rfl) ?_ ?_
      · refine TRi.callG rfl rfl rfl rfl rfl rfl Tryd.call11 (fun w hs => g_all hG2 0 hs) (l' := #[true, true, true, true, true, true, true, true, true, true, true, true, true, true, true, true, true, true, true, true, true, true, true, true, false, false, false, false]) rfl ?_
        rintro _ _ ⟨E, rfl, hu⟩
        rw [cut_0] at hu
        refine ⟨(fun w hs => SH.of hs (by repeat (first | exact Le.refl _ | exact Le.nil _ | refine Le.hit ?_ | refine Le.hit1 ?_ | refine Le.hit2 ?_ | refine Le.hit3 ?_ | refine Le.hit4 ?_ | refine Le.hit5 ?_ | refine Le.hit6 ?_ | refine Le.hit7 ?_ | refine Le.hit8 ?_ | refine Le.hit9 ?_ | refine Le.hit10 ?_ | refine Le.skip ?_))), ?_⟩
        refine TR.one (i := 24) (by kernel_rfl) ?_
        refine TRi.rG rfl rfl rfl rfl (EvR.load rfl Tryd.isAgg26 (AtB.own (by repeat (first | exact Has.hd | refine Has.tlb ?_ | refine Has.tlc ?_))) (by rfl)) ((fun w hs => SH.of hs (by repeat (first | exact Le.refl _ | exact Le.nil _ | refine Le.hit ?_ | refine Le.hit1 ?_ | refine Le.hit2 ?_ | refine Le.hit3 ?_ | refine Le.hit4 ?_ | refine Le.hit5 ?_ | refine Le.hit6 ?_ | refine Le.hit7 ?_ | refine Le.hit8 ?_ | refine Le.hit9 ?_ | refine Le.hit10 ?_ | refine Le.skip ?_)))) (l' := #[true, true, true, true, true, true, true, true, true, true, true, true, true, true, true, true, true, true, true, true, true, true, true, true, true, false, false, false]) rfl ?_
        refine TR.one (i := 25) (by kernel_rfl) ?_
        refine TRi.callG rfl rfl rfl rfl rfl rfl Tryd.call10 (fun w hs => same_spec (hu.els encN_ok (by simp)) (hv3.els encN_ok (by simp)) (by omega) hs) (l' := #[true, true, true, true, true, true, true, true, true, true, true, true, true, true, true, true, true, true, true, true, true, true, true, true, true, true, false, false]) rfl ?_
        rintro _ _ ⟨rfl, rfl⟩
        refine ⟨(fun w hs => SH.of hs (by repeat (first | exact Le.refl _ | exact Le.nil _ | refine Le.hit ?_ | refine Le.hit1 ?_ | refine Le.hit2 ?_ | refine Le.hit3 ?_ | refine Le.hit4 ?_ | refine Le.hit5 ?_ | refine Le.hit6 ?_ | refine Le.hit7 ?_ | refine Le.hit8 ?_ | refine Le.hit9 ?_ | refine Le.hit10 ?_ | refine Le.skip ?_))), ?_⟩
        refine TR.takeY 26 rfl rfl rfl rfl (by kernel_rfl) (by kernel_rfl) (by kernel_rfl) (EvP.r (by exact EvP.not rfl)) (l' := #[true, true, true, true, true, true, true, true, true, true, true, true, true, true, true, true, true, true, true, true, true, true, true, true, true, true, true, false]) rfl ?_
        refine TR.take 27 rfl (by kernel_rfl) (by kernel_rfl) (by kernel_rfl) (EvP.r (by exact EvP.pickF rfl rfl)) (l' := #[true, true, true, true, true, true, true, true, true, true, true, true, true, true, true, true, true, true, true, true, true, true, true, true, true, true, true, true]) rfl ?_
        refine TR.done (by kernel_rfl) ?_
        refine TX.thenN rfl rfl ?_
        refine TC.cfalse rfl ?_
        refine TC.skip ?_
        refine TX.blkN ?_
        refine TX.thenN rfl rfl ?_
        refine TC.region ?_
        refine TL.p (EvP.move rfl) ?_
        refine TL.p (EvP.add rfl rfl (by omega)) ?_
        refine TL.p (EvP.assign rfl) ?_
        refine TL.nil ?_
        refine TX.back ((i + 1, _, C2, _, D2)) (⟨by omega, hG2, ⟨_, rfl, hv3⟩⟩) (by simp only; omega) ⟨rfl, rfl, rfl, rfl, trivial⟩ (by repeat (first | exact Le.refl _ | exact Le.nil _ | refine Le.hit ?_ | refine Le.hit1 ?_ | refine Le.hit2 ?_ | refine Le.hit3 ?_ | refine Le.hit4 ?_ | refine Le.hit5 ?_ | refine Le.hit6 ?_ | refine Le.hit7 ?_ | refine Le.hit8 ?_ | refine Le.hit9 ?_ | refine Le.hit10 ?_ | refine Le.skip ?_))
      · refine TRi.rG rfl rfl rfl rfl (EvR.load rfl Tryd.isAgg26 (AtB.own (by repeat (first | exact Has.hd | refine Has.tlb ?_ | refine Has.tlc ?_))) (by rfl)) ((fun w hs => SH.of hs (by repeat (first | exact Le.refl _ | exact Le.nil _ | refine Le.hit ?_ | refine Le.hit1 ?_ | refine Le.hit2 ?_ | refine Le.hit3 ?_ | refine Le.hit4 ?_ | refine Le.hit5 ?_ | refine Le.hit6 ?_ | refine Le.hit7 ?_ | refine Le.hit8 ?_ | refine Le.hit9 ?_ | refine Le.hit10 ?_ | refine Le.skip ?_)))) (l' := #[true, true, true, true, true, true, true, true, true, true, true, true, true, true, true, true, true, true, true, true, false, true, true, true, true, false, false, false]) rfl ?_
        refine TR.one (i := 20) (by kernel_rfl) ?_
        refine TRi.callG rfl rfl rfl rfl rfl rfl Tryd.call11 (fun w hs => g_all hG2 0 hs) (l' := #[true, true, true, true, true, true, true, true, true, true, true, true, true, true, true, true, true, true, true, true, true, true, true, true, true, false, false, false]) rfl ?_
        rintro _ _ ⟨E, rfl, hu⟩
        rw [cut_0] at hu
        refine ⟨(fun w hs => SH.of hs (by repeat (first | exact Le.refl _ | exact Le.nil _ | refine Le.hit ?_ | refine Le.hit1 ?_ | refine Le.hit2 ?_ | refine Le.hit3 ?_ | refine Le.hit4 ?_ | refine Le.hit5 ?_ | refine Le.hit6 ?_ | refine Le.hit7 ?_ | refine Le.hit8 ?_ | refine Le.hit9 ?_ | refine Le.hit10 ?_ | refine Le.skip ?_))), ?_⟩
        refine TR.one (i := 25) (by kernel_rfl) ?_
        refine TRi.callG rfl rfl rfl rfl rfl rfl Tryd.call10 (fun w hs => same_spec (hu.els encN_ok (by simp)) (hv3.els encN_ok (by simp)) (by omega) hs) (l' := #[true, true, true, true, true, true, true, true, true, true, true, true, true, true, true, true, true, true, true, true, true, true, true, true, true, true, false, false]) rfl ?_
        rintro _ _ ⟨rfl, rfl⟩
        refine ⟨(fun w hs => SH.of hs (by repeat (first | exact Le.refl _ | exact Le.nil _ | refine Le.hit ?_ | refine Le.hit1 ?_ | refine Le.hit2 ?_ | refine Le.hit3 ?_ | refine Le.hit4 ?_ | refine Le.hit5 ?_ | refine Le.hit6 ?_ | refine Le.hit7 ?_ | refine Le.hit8 ?_ | refine Le.hit9 ?_ | refine Le.hit10 ?_ | refine Le.skip ?_))), ?_⟩
        refine TR.takeY 26 rfl rfl rfl rfl (by kernel_rfl) (by kernel_rfl) (by kernel_rfl) (EvP.r (by exact EvP.not rfl)) (l' := #[true, true, true, true, true, true, true, true, true, true, true, true, true, true, true, true, true, true, true, true, true, true, true, true, true, true, true, false]) rfl ?_
        refine TR.take 27 rfl (by kernel_rfl) (by kernel_rfl) (by kernel_rfl) (EvP.r (by exact EvP.pickF rfl rfl)) (l' := #[true, true, true, true, true, true, true, true, true, true, true, true, true, true, true, true, true, true, true, true, true, true, true, true, true, true, true, true]) rfl ?_
        refine TR.done (by kernel_rfl) ?_
        refine TX.thenN rfl rfl ?_
        refine TC.cfalse rfl ?_
        refine TC.skip ?_
        refine TX.blkN ?_
        refine TX.thenN rfl rfl ?_
        refine TC.region ?_
        refine TL.p (EvP.move rfl) ?_
        refine TL.p (EvP.add rfl rfl (by omega)) ?_
        refine TL.p (EvP.assign rfl) ?_
        refine TL.nil ?_
        refine TX.back ((i + 1, _, C2, _, D2)) (⟨by omega, hG2, ⟨_, rfl, hv3⟩⟩) (by simp only; omega) ⟨rfl, rfl, rfl, rfl, trivial⟩ (by repeat (first | exact Le.refl _ | exact Le.nil _ | refine Le.hit ?_ | refine Le.hit1 ?_ | refine Le.hit2 ?_ | refine Le.hit3 ?_ | refine Le.hit4 ?_ | refine Le.hit5 ?_ | refine Le.hit6 ?_ | refine Le.hit7 ?_ | refine Le.hit8 ?_ | refine Le.hit9 ?_ | refine Le.hit10 ?_ | refine Le.skip ?_))
  · refine TL.nil ?_
    refine TX.thenN rfl rfl ?_
    refine TC.cfalse rfl ?_
    refine TC.exit ?_
    refine TX.thenE ?_
    refine TX.thenE ?_
    refine TX.blkH ?_
    refine TX.thenN rfl rfl ?_
    refine TC.seq ?_
    refine TC.region ?_
    refine TL.p (EvP.move rfl) ?_
    refine TL.p (EvP.nilP rfl) ?_
    refine TL.p (EvP.fa (e := 0) rfl Tryd.runUnderlying28 rfl Tryd.sizeOf26 rfl) ?_
    refine TL.r (EvR.load rfl Tryd.isAgg26 (AtB.own (by repeat (first | exact Has.hd | refine Has.tlb ?_ | refine Has.tlc ?_))) (by rfl)) ?_
    refine TL.p (EvP.assign rfl) ?_
    refine TL.nil ?_
    refine TX.thenN rfl rfl ?_
    refine TC.seq ?_
    refine TC.seq ?_
    refine TC.region ?_
    refine TL.p (EvP.move rfl) ?_
    refine TL.p (EvP.lenS Tryd.runUnderlying26 rfl) ?_
    refine TL.dec (EvP.gt rfl rfl) (fun h52 => ?_) (fun h52 => ?_)
    · refine TL.nil ?_
      refine TX.thenN rfl rfl ?_
      refine TC.ctrue rfl ?_
      refine TC.region ?_
      refine TL.p (EvP.move rfl) ?_
      refine TL.p (EvP.sliceH (j := 2) Tryd.runUnderlying26 Tryd.sizeOf45 rfl rfl (by have := hv2.capOk; omega) hv2.spotOk) ?_
      refine TL.p (EvP.assign rfl) ?_
      refine TL.nil ?_
      refine TX.thenN rfl rfl ?_
      refine TC.seq ?_
      refine TC.region ?_
      refine TL.p (EvP.move rfl) ?_
      refine TL.callB rfl rfl Tryd.call11 (fun w hs => g_all hG 2 hs) ?_
      rintro _ E hu
      rw [cut_2y] at hu
      refine TL.p (EvP.move rfl) ?_
      refine TL.callA rfl rfl Tryd.call10 (fun w hs => same_spec (hu.els encN_ok (by simp)) ((hv2.els encN_ok (by simp)).take (j := 2) (by omega)) (by rw [List.length_take]; omega) hs) ?_
      rintro _ rfl
      refine TL.p (EvP.move rfl) ?_
      refine TL.gY rfl rfl rfl ?_
      refine TL.callA rfl rfl Tryd.call12 (fun w hs => known_spec hT hs) ?_
      rintro _ rfl
      refine TL.p (EvP.pickT rfl rfl) ?_
      refine TL.p (EvP.assign rfl) ?_
      refine TL.nil ?_
      refine TX.thenN rfl rfl ?_
      refine TC.ret ?_
      refine TX.done rfl (Res.one rfl rfl) (fun w hs => Post0.mk hs ?_ (by repeat (first | exact Le.refl _ | exact Le.nil _ | refine Le.hit ?_ | refine Le.hit1 ?_ | refine Le.hit2 ?_ | refine Le.hit3 ?_ | refine Le.hit4 ?_ | refine Le.hit5 ?_ | refine Le.hit6 ?_ | refine Le.hit7 ?_ | refine Le.hit8 ?_ | refine Le.hit9 ?_ | refine Le.hit10 ?_ | refine Le.skip ?_)))
      rfl
    · refine TL.nil ?_
      refine TX.thenN rfl rfl ?_
      refine TC.cfalse rfl ?_
      refine TC.skip ?_
      refine TX.thenN rfl rfl ?_
      refine TC.seq ?_
      refine TC.region ?_
      refine TL.p (EvP.move rfl) ?_
      refine TL.callB rfl rfl Tryd.call11 (fun w hs => g_all hG 2 hs) ?_
      rintro _ E hu
      rw [cut_2n (by omega)] at hu
      refine TL.p (EvP.move rfl) ?_
      refine TL.callA rfl rfl Tryd.call10 (fun w hs => same_spec (hu.els encN_ok (by simp)) (hv2.els encN_ok (by simp)) (by omega) hs) ?_
      rintro _ rfl
      refine TL.p (EvP.move rfl) ?_
      refine TL.gY rfl rfl rfl ?_
      refine TL.callA rfl rfl Tryd.call12 (fun w hs => known_spec hT hs) ?_
      rintro _ rfl
      refine TL.p (EvP.pickT rfl rfl) ?_
      refine TL.p (EvP.assign rfl) ?_
      refine TL.nil ?_
      refine TX.thenN rfl rfl ?_
      refine TC.ret ?_
      refine TX.done rfl (Res.one rfl rfl) (fun w hs => Post0.mk hs ?_ (by repeat (first | exact Le.refl _ | exact Le.nil _ | refine Le.hit ?_ | refine Le.hit1 ?_ | refine Le.hit2 ?_ | refine Le.hit3 ?_ | refine Le.hit4 ?_ | refine Le.hit5 ?_ | refine Le.hit6 ?_ | refine Le.hit7 ?_ | refine Le.hit8 ?_ | refine Le.hit9 ?_ | refine Le.hit10 ?_ | refine Le.skip ?_)))
      rfl
end Go.Proofs.YtocohlcmkbnegaaDoor
