/-
  Walks of the law's example, and of one call of both graphs.
-/
import Derived.Test.YtnmljhhbabjlcaaLk
set_option linter.unusedSimpArgs false
set_option linter.unusedVariables false
set_option maxRecDepth 4000
namespace Go.Proofs.Ytnmljhhbabjlcaa
open Go Go.RowKit

section
variable {w0 w : World} {R : List Chunk} {k : Int} {L : List Bond} {g : Nat} {C : Chunk}
theorem g_every (hG : IsG k L g C) {most : Int} (hm : 1 ≤ most) (hst : St w0 w (C :: R)) : Calls Try.prog 15 #[.pointer (some ⟨g, 0, none⟩), .int .i64 most] w (Post1 w0 (C :: R) fun u E => Sl 48 3 Bond.enc u (L.take most.toNat) E) := by
  obtain ⟨mb, ml, mr, n, eb, cb, el, cl, er, cr, S, rfl, hg, rfl, hn⟩ := hG
  have h := every_raw hg hm (hst.le Le.open4)
  rw [List.filter_eq_self.2 (fun _ _ => rfl)] at h
  exact callsL1 h Le.close4
theorem g_of (hG : IsG k L g C) {pid most : Int} (hm : 1 ≤ most) (hst : St w0 w (C :: R)) : Calls Try.prog 21 #[.pointer (some ⟨g, 0, none⟩), .int .i64 pid, .int .i64 most] w (Post1 w0 (C :: R) fun u E => Sl 48 3 Bond.enc u ((ofL L pid).take most.toNat) E) := by
  obtain ⟨mb, ml, mr, n, eb, cb, el, cl, er, cr, S, rfl, hg, rfl, hn⟩ := hG
  have h := of_raw hg hm (pid := pid) (hst.le Le.open4)
  exact callsL1 h Le.close4
end
theorem aw1 : lnk [] 5 3 = (0, [⟨3, 5, 0⟩]) := by decide
theorem aw2 : wat [⟨3, 5, 0⟩] 9 3 5 = (0, [⟨3, 5, 0⟩, ⟨3, 5, 9⟩]) := by decide
theorem aw3 : endT [⟨3, 5, 0⟩, ⟨3, 5, 9⟩] 5 = [⟨3, 5, 0⟩, ⟨3, 5, 9⟩] := by decide
theorem aw4 : endL [⟨3, 5, 0⟩, ⟨3, 5, 9⟩] 5 = [] := by decide
theorem endT_len {L : List Bond} {p : Int} (h : L.length ≤ 1024 := by assumption) : (endT L p).length ≤ 1024 :=
  Nat.le_trans (List.length_filter_le _ _) (Nat.le_trans (List.length_filter_le _ _) h)

/-- A call, as the law names it. -/
structure LOp where
  k : Int
  a : Int
  b : Int
  r : Int
deriving DecidableEq
def LOp.enc (o : LOp) : List Value := [.int .i64 o.k, .int .i64 o.a, .int .i64 o.b, .int .i64 o.r]
def LOp.v (o : LOp) : Value := .agg o.enc.toArray
def stp (L : List Bond) (o : LOp) : List Bond :=
  if o.k = 0 then (lnk L o.a o.b).2 else if o.k = 1 then (unl L o.a o.b).2 else if o.k = 2 then (wat L o.r o.a o.b).2 else if o.k = 3 then (lev L o.r).2
  else if o.k = 4 then L else if o.k = 5 then (if okPid o.a = true then endL L o.a else L) else L

theorem awake_spec {w0 w : World} {R : List Chunk} (hst : St w0 w R) : Calls Try.prog 16 #[] w (Post0 w0 R fun v => v = .bool true) := by
  refine calls_of (args := []) Try.func16 rfl Try.ntmps16 hst ?_
  refine TC.seq ?_
  refine TC.region ?_
  refine TL.p (EvP.assign rfl) ?_
  refine TL.nil ?_
  refine TX.thenN rfl rfl ?_
  refine TC.seq ?_
  refine TC.region ?_
  refine TL.callB rfl rfl Try.call9 (fun w hs => new_spec hs) ?_
  rintro _ C ⟨g, rfl, hG⟩
  refine TL.p (EvP.assign rfl) ?_
  refine TL.nil ?_
  refine TX.thenN rfl rfl ?_
  refine TC.seq ?_
  refine TC.seq ?_
  refine TC.region ?_
  refine TL.p (EvP.move rfl) ?_
  refine TL.p (EvP.eqPtrNil Try.runUnderlying24 rfl rfl) ?_
  refine TL.p (EvP.move rfl) ?_
  refine TL.gY rfl rfl rfl ?_
  refine TL.p (EvP.move rfl) ?_
  refine TL.gY rfl rfl rfl ?_
  refine TL.callB rfl rfl Try.call30 (fun w hs => (by have h := g_link hG (by omega) 5 3 hs; rw [aw1] at h; exact h)) ?_
  rintro _ C2 ⟨rfl, hG2⟩
  change IsG _ [⟨3, 5, 0⟩] g C2 at hG2
  refine TL.gY rfl rfl rfl ?_
  refine TL.p (EvP.ne rfl rfl) ?_
  refine TL.p (EvP.pickF rfl rfl) ?_
  refine TL.p (EvP.move rfl) ?_
  refine TL.gY rfl rfl rfl ?_
  refine TL.p (EvP.move rfl) ?_
  refine TL.gY rfl rfl rfl ?_
  refine TL.callB rfl rfl Try.call11 (fun w hs => (by have h := g_watch hG2 (by omega) 9 3 5 hs; rw [aw2] at h; exact h)) ?_
  rintro _ C3 ⟨rfl, hG3⟩
  change IsG _ [⟨3, 5, 0⟩, ⟨3, 5, 9⟩] g C3 at hG3
  refine TL.gY rfl rfl rfl ?_
  refine TL.p (EvP.ne rfl rfl) ?_
  refine TL.p (EvP.pickF rfl rfl) ?_
  refine TL.nil ?_
  refine TX.thenN rfl rfl ?_
  refine TC.cfalse rfl ?_
  refine TC.skip ?_
  refine TX.thenN rfl rfl ?_
  refine TC.seq ?_
  refine TC.region ?_
  refine TL.p (EvP.move rfl) ?_
  refine TL.callC rfl rfl Try.call19 (fun w hs => (by have h := g_end hG3 5 rfl hs; rw [aw3, aw4] at h; exact h)) ?_
  rintro _ C4 DT ⟨t, rfl, ht, hG4⟩
  obtain ⟨a3, c3, rfl, _, _⟩ := ht.len
  refine TL.p (EvP.move rfl) ?_
  refine TL.p (EvP.extract rfl rfl) ?_
  refine TL.p (EvP.extract rfl rfl) ?_
  refine TL.p (EvP.assign rfl) ?_
  refine TL.p (EvP.assign rfl) ?_
  refine TL.nil ?_
  refine TX.thenN rfl rfl ?_
  refine TC.seq ?_
  refine TC.region ?_
  refine TL.p (EvP.move rfl) ?_
  refine TL.p (EvP.eq rfl rfl) ?_
  refine TL.p (EvP.move rfl) ?_
  refine TL.gY rfl rfl rfl ?_
  refine TL.p (EvP.move rfl) ?_
  refine TL.gY rfl rfl rfl ?_
  refine TL.p (EvP.lenS Try.runUnderlying27 rfl) ?_
  refine TL.gY rfl rfl rfl ?_
  refine TL.p (EvP.eq rfl rfl) ?_
  refine TL.p (EvP.pickT rfl rfl) ?_
  refine TL.p (EvP.move rfl) ?_
  refine TL.gY rfl rfl rfl ?_
  refine TL.p (EvP.move rfl) ?_
  refine TL.gY rfl rfl rfl ?_
  refine TL.elem (ht.el encB_ok (j := 0) (x := ⟨3, 5, 0⟩) rfl (by simp)) Try.runUnderlying27 Try.sizeOf48 rfl rfl (fun bE0 oE0 lE0 _ _ hE0 hcE0 => ?_)
  refine TL.gY rfl rfl rfl ?_
  refine TL.r (EvR.loadN (vs := [_, _, _]) rfl Try.isAgg48 Try.sizeOf48 hE0 hcE0) ?_
  refine TL.gY rfl rfl rfl ?_
  refine TL.p (EvP.buildS (is := [0, 1]) (xs := [_, _]) rfl Try.runUnderlying48 Try.zeroValue48 rfl (.cons Try.sizeOf2 (.cons Try.sizeOf2 (.cons Try.sizeOf2 .nil))) rfl rfl rfl) ?_
  refine TL.gY rfl rfl rfl ?_
  refine TL.p (EvP.isT (eqBond ⟨3, 5, 0⟩ ⟨3, 5, 0⟩) rfl) ?_
  refine TL.p (EvP.pickT rfl rfl) ?_
  refine TL.p (EvP.move rfl) ?_
  refine TL.gY rfl rfl rfl ?_
  refine TL.p (EvP.move rfl) ?_
  refine TL.gY rfl rfl rfl ?_
  refine TL.elem (ht.el encB_ok (j := 1) (x := ⟨3, 5, 9⟩) rfl (by simp)) Try.runUnderlying27 Try.sizeOf48 rfl rfl (fun bE1 oE1 lE1 _ _ hE1 hcE1 => ?_)
  refine TL.gY rfl rfl rfl ?_
  refine TL.r (EvR.loadN (vs := [_, _, _]) rfl Try.isAgg48 Try.sizeOf48 hE1 hcE1) ?_
  refine TL.gY rfl rfl rfl ?_
  refine TL.p (EvP.buildS (is := [0, 1, 2]) (xs := [_, _, _]) rfl Try.runUnderlying48 Try.zeroValue48 rfl (.cons Try.sizeOf2 (.cons Try.sizeOf2 (.cons Try.sizeOf2 .nil))) rfl rfl rfl) ?_
  refine TL.gY rfl rfl rfl ?_
  refine TL.p (EvP.isT (eqBond ⟨3, 5, 9⟩ ⟨3, 5, 9⟩) rfl) ?_
  refine TL.p (EvP.pickT rfl rfl) ?_
  refine TL.p (EvP.move rfl) ?_
  refine TL.gY rfl rfl rfl ?_
  refine TL.p (EvP.move rfl) ?_
  refine TL.gY rfl rfl rfl ?_
  refine TL.callB rfl rfl Try.call22 (fun w hs => g_len hG4 hs) ?_
  rintro _ _ ⟨rfl, rfl⟩
  refine TL.gY rfl rfl rfl ?_
  refine TL.p (EvP.eq rfl rfl) ?_
  refine TL.p (EvP.pickT rfl rfl) ?_
  refine TL.p (EvP.assign rfl) ?_
  refine TL.nil ?_
  refine TX.thenN rfl rfl ?_
  refine TC.ret ?_
  refine TX.done rfl (Res.one rfl rfl) (fun w hs => Post0.mk hs ?_ (by repeat (first | exact Le.refl _ | exact Le.nil _ | refine Le.hit ?_ | refine Le.hit1 ?_ | refine Le.hit2 ?_ | refine Le.hit3 ?_ | refine Le.hit4 ?_ | refine Le.hit5 ?_ | refine Le.hit6 ?_ | refine Le.hit7 ?_ | refine Le.hit8 ?_ | refine Le.hit9 ?_ | refine Le.hit10 ?_ | refine Le.skip ?_)))
  rfl

theorem step_spec {w0 w : World} {R : List Chunk} {k : Int} {L : List Bond} {g rr : Nat} {C Cr D : Chunk} (hG : IsG k L g C) (hk : k < 9223372036854775807) (hR : RQ rr L Cr D) (o : LOp) (hst : St w0 w (C :: Cr :: D :: R)) : Calls Try.prog 13 #[.pointer (some ⟨g, 0, none⟩), .pointer (some ⟨rr, 0, none⟩), o.v] w (Post3 w0 R fun u C2 Cr2 D2 => u = .bool true ∧ IsG (k + 1) (stp L o) g C2 ∧ RQ rr (stp L o) Cr2 D2) := by
  have hl := hG.ok.len
  refine calls_of (args := [_, _, _]) Try.func13 rfl Try.ntmps13 hst ?_
  refine TC.seq ?_
  refine TC.region ?_
  refine TL.box rfl rfl (fun b5 => ?_)
  refine TL.p (EvP.assign rfl) ?_
  refine TL.nil ?_
  refine TX.thenN rfl rfl ?_
  refine TC.seq ?_
  refine TC.seq ?_
  refine TC.region ?_
  refine TL.p (EvP.fa (e := 0) rfl Try.runUnderlying23 rfl Try.sizeOf3 rfl) ?_
  refine TL.r (EvR.load rfl Try.isAgg3 (AtB.own (by repeat (first | exact Has.hd | refine Has.tlb ?_ | refine Has.tlc ?_))) (by rfl)) ?_
  refine TL.nil ?_
  refine TX.thenN rfl rfl ?_
  refine TC.block ?_
  refine TC.seq ?_
  refine TC.region ?_
  refine TL.dec (EvP.eq rfl rfl) (fun h24 => ?_) (fun h24 => ?_)
  · refine TL.p (EvP.assign rfl) ?_
    refine TL.nil ?_
    refine TX.thenN rfl rfl ?_
    refine TC.ctrue rfl ?_
    refine TC.seq ?_
    refine TC.drawn (listed := #[false, false, false, false, false, false, false, false, false, false, false, false, false, false]) 14 (SH w0 [[(b5, .cells o.enc.toArray 23 (0, 0))]]) rfl rfl rfl rfl (fun w hs => SH.of hs (by repeat (first | exact Le.refl _ | exact Le.nil _ | refine Le.hit ?_ | refine Le.hit1 ?_ | refine Le.hit2 ?_ | refine Le.hit3 ?_ | refine Le.hit4 ?_ | refine Le.hit5 ?_ | refine Le.hit6 ?_ | refine Le.hit7 ?_ | refine Le.hit8 ?_ | refine Le.hit9 ?_ | refine Le.hit10 ?_ | refine Le.skip ?_))) ?_
    refine TR.take 0 rfl (by kernel_rfl) (by kernel_rfl) (by kernel_rfl) (EvP.r (by exact EvP.move rfl)) (l' := #[true, false, false, false, false, false, false, false, false, false, false, false, false, false]) rfl ?_
    refine TR.take 1 rfl (by kernel_rfl) (by kernel_rfl) (by kernel_rfl) (EvP.r (by exact EvP.fa (e := 1) rfl Try.runUnderlying23 rfl Try.sizeOf2 rfl)) (l' := #[true, true, false, false, false, false, false, false, false, false, false, false, false, false]) rfl ?_
    refine TR.take 2 rfl (by kernel_rfl) (by kernel_rfl) (by kernel_rfl) (EvR.load rfl Try.isAgg2 (AtB.own' (by repeat (first | exact Has.hd | refine Has.tlb ?_ | refine Has.tlc ?_))) (by rfl)) (l' := #[true, true, true, false, false, false, false, false, false, false, false, false, false, false]) rfl ?_
    refine TR.take 3 rfl (by kernel_rfl) (by kernel_rfl) (by kernel_rfl) (EvP.r (by exact EvP.fa (e := 2) rfl Try.runUnderlying23 rfl Try.sizeOf2 rfl)) (l' := #[true, true, true, true, false, false, false, false, false, false, false, false, false, false]) rfl ?_
    refine TR.take 4 rfl (by kernel_rfl) (by kernel_rfl) (by kernel_rfl) (EvR.load rfl Try.isAgg2 (AtB.own' (by repeat (first | exact Has.hd | refine Has.tlb ?_ | refine Has.tlc ?_))) (by rfl)) (l' := #[true, true, true, true, true, false, false, false, false, false, false, false, false, false]) rfl ?_
    refine TR.take 6 rfl (by kernel_rfl) (by kernel_rfl) (by kernel_rfl) (EvP.r (by exact EvP.move rfl)) (l' := #[true, true, true, true, true, false, true, false, false, false, false, false, false, false]) rfl ?_
    refine TR.take 7 rfl (by kernel_rfl) (by kernel_rfl) (by kernel_rfl) (EvP.r (by exact EvP.fa (e := 1) rfl Try.runUnderlying23 rfl Try.sizeOf2 rfl)) (l' := #[true, true, true, true, true, false, true, true, false, false, false, false, false, false]) rfl ?_
    refine TR.take 8 rfl (by kernel_rfl) (by kernel_rfl) (by kernel_rfl) (EvR.load rfl Try.isAgg2 (AtB.own' (by repeat (first | exact Has.hd | refine Has.tlb ?_ | refine Has.tlc ?_))) (by rfl)) (l' := #[true, true, true, true, true, false, true, true, true, false, false, false, false, false]) rfl ?_
    refine TR.take 9 rfl (by kernel_rfl) (by kernel_rfl) (by kernel_rfl) (EvP.r (by exact EvP.fa (e := 2) rfl Try.runUnderlying23 rfl Try.sizeOf2 rfl)) (l' := #[true, true, true, true, true, false, true, true, true, true, false, false, false, false]) rfl ?_
    refine TR.take 10 rfl (by kernel_rfl) (by kernel_rfl) (by kernel_rfl) (EvR.load rfl Try.isAgg2 (AtB.own' (by repeat (first | exact Has.hd | refine Has.tlb ?_ | refine Has.tlc ?_))) (by rfl)) (l' := #[true, true, true, true, true, false, true, true, true, true, true, false, false, false]) rfl ?_
    refine TR.one (i := 5) (by kernel_rfl) ?_
    refine TRi.le (Le.hit1 (Le.refl _)) ?_
    refine TRi.call rfl rfl rfl Try.call30 (fun w hs => g_link hG hk o.a o.b hs) (l' := #[true, true, true, true, true, true, true, true, true, true, true, false, false, false]) rfl ?_
    rintro _ _ ⟨C2, rfl, rfl, hG2⟩
    refine ⟨(fun w hs => SH.of hs (by repeat (first | exact Le.refl _ | exact Le.nil _ | refine Le.hit ?_ | refine Le.hit1 ?_ | refine Le.hit2 ?_ | refine Le.hit3 ?_ | refine Le.hit4 ?_ | refine Le.hit5 ?_ | refine Le.hit6 ?_ | refine Le.hit7 ?_ | refine Le.hit8 ?_ | refine Le.hit9 ?_ | refine Le.hit10 ?_ | refine Le.skip ?_))), ?_⟩
    refine TR.one (i := 11) (by kernel_rfl) ?_
    refine TRi.le (Le.hit2 (Le.hit2 (Le.refl _))) ?_
    refine TRi.call rfl rfl rfl Try.call35 (fun w hs => r_link hR hl o.a o.b hs) (l' := #[true, true, true, true, true, true, true, true, true, true, true, true, false, false]) rfl ?_
    rintro _ _ ⟨Cr2, D2, rfl, rfl, hR2⟩
    refine ⟨(fun w hs => SH.of hs (by repeat (first | exact Le.refl _ | exact Le.nil _ | refine Le.hit ?_ | refine Le.hit1 ?_ | refine Le.hit2 ?_ | refine Le.hit3 ?_ | refine Le.hit4 ?_ | refine Le.hit5 ?_ | refine Le.hit6 ?_ | refine Le.hit7 ?_ | refine Le.hit8 ?_ | refine Le.hit9 ?_ | refine Le.hit10 ?_ | refine Le.skip ?_))), ?_⟩
    refine TR.take 12 rfl (by kernel_rfl) (by kernel_rfl) (by kernel_rfl) (EvP.r (by exact EvP.isT (EvP.eq rfl rfl) (rfl))) (l' := #[true, true, true, true, true, true, true, true, true, true, true, true, true, false]) rfl ?_
    refine TR.take 13 rfl (by kernel_rfl) (by kernel_rfl) (by kernel_rfl) (EvP.r (by exact EvP.assign rfl)) (l' := #[true, true, true, true, true, true, true, true, true, true, true, true, true, true]) rfl ?_
    refine TR.done (by kernel_rfl) ?_
    refine TX.thenN rfl rfl ?_
    refine TC.ret ?_
    refine TX.blkR ?_
    refine TX.thenR ?_
    refine TX.done rfl (Res.one rfl rfl) (fun w hs => Post3.mk (C := C2) (D := Cr2) (E := D2) hs ?_ (by repeat (first | exact Le.refl _ | exact Le.nil _ | refine Le.hit ?_ | refine Le.hit1 ?_ | refine Le.hit2 ?_ | refine Le.hit3 ?_ | refine Le.hit4 ?_ | refine Le.hit5 ?_ | refine Le.hit6 ?_ | refine Le.hit7 ?_ | refine Le.hit8 ?_ | refine Le.hit9 ?_ | refine Le.hit10 ?_ | refine Le.skip ?_)))
    rw [show stp L o = (lnk L o.a o.b).2 from by simp_all [stp]]
    exact ⟨rfl, hG2, hR2⟩
  · refine TL.p (EvP.assign rfl) ?_
    refine TL.nil ?_
    refine TX.thenN rfl rfl ?_
    refine TC.cfalse rfl ?_
    refine TC.seq ?_
    refine TC.region ?_
    refine TL.dec (EvP.eq rfl rfl) (fun h39 => ?_) (fun h39 => ?_)
    · refine TL.p (EvP.assign rfl) ?_
      refine TL.nil ?_
      refine TX.thenN rfl rfl ?_
      refine TC.ctrue rfl ?_
      refine TC.seq ?_
      refine TC.drawn (listed := #[false, false, false, false, false, false, false, false, false, false, false, false, false, false]) 14 (SH w0 [[(b5, .cells o.enc.toArray 23 (0, 0))]]) rfl rfl rfl rfl (fun w hs => SH.of hs (by repeat (first | exact Le.refl _ | exact Le.nil _ | refine Le.hit ?_ | refine Le.hit1 ?_ | refine Le.hit2 ?_ | refine Le.hit3 ?_ | refine Le.hit4 ?_ | refine Le.hit5 ?_ | refine Le.hit6 ?_ | refine Le.hit7 ?_ | refine Le.hit8 ?_ | refine Le.hit9 ?_ | refine Le.hit10 ?_ | refine Le.skip ?_))) ?_
      refine TR.take 0 rfl (by kernel_rfl) (by kernel_rfl) (by kernel_rfl) (EvP.r (by exact EvP.move rfl)) (l' := #[true, false, false, false, false, false, false, false, false, false, false, false, false, false]) rfl ?_
      refine TR.take 1 rfl (by kernel_rfl) (by kernel_rfl) (by kernel_rfl) (EvP.r (by exact EvP.fa (e := 1) rfl Try.runUnderlying23 rfl Try.sizeOf2 rfl)) (l' := #[true, true, false, false, false, false, false, false, false, false, false, false, false, false]) rfl ?_
      refine TR.take 2 rfl (by kernel_rfl) (by kernel_rfl) (by kernel_rfl) (EvR.load rfl Try.isAgg2 (AtB.own' (by repeat (first | exact Has.hd | refine Has.tlb ?_ | refine Has.tlc ?_))) (by rfl)) (l' := #[true, true, true, false, false, false, false, false, false, false, false, false, false, false]) rfl ?_
      refine TR.take 3 rfl (by kernel_rfl) (by kernel_rfl) (by kernel_rfl) (EvP.r (by exact EvP.fa (e := 2) rfl Try.runUnderlying23 rfl Try.sizeOf2 rfl)) (l' := #[true, true, true, true, false, false, false, false, false, false, false, false, false, false]) rfl ?_
      refine TR.take 4 rfl (by kernel_rfl) (by kernel_rfl) (by kernel_rfl) (EvR.load rfl Try.isAgg2 (AtB.own' (by repeat (first | exact Has.hd | refine Has.tlb ?_ | refine Has.tlc ?_))) (by rfl)) (l' := #[true, true, true, true, true, false, false, false, false, false, false, false, false, false]) rfl ?_
      refine TR.take 6 rfl (by kernel_rfl) (by kernel_rfl) (by kernel_rfl) (EvP.r (by exact EvP.move rfl)) (l' := #[true, true, true, true, true, false, true, false, false, false, false, false, false, false]) rfl ?_
      refine TR.take 7 rfl (by kernel_rfl) (by kernel_rfl) (by kernel_rfl) (EvP.r (by exact EvP.fa (e := 1) rfl Try.runUnderlying23 rfl Try.sizeOf2 rfl)) (l' := #[true, true, true, true, true, false, true, true, false, false, false, false, false, false]) rfl ?_
      refine TR.take 8 rfl (by kernel_rfl) (by kernel_rfl) (by kernel_rfl) (EvR.load rfl Try.isAgg2 (AtB.own' (by repeat (first | exact Has.hd | refine Has.tlb ?_ | refine Has.tlc ?_))) (by rfl)) (l' := #[true, true, true, true, true, false, true, true, true, false, false, false, false, false]) rfl ?_
      refine TR.take 9 rfl (by kernel_rfl) (by kernel_rfl) (by kernel_rfl) (EvP.r (by exact EvP.fa (e := 2) rfl Try.runUnderlying23 rfl Try.sizeOf2 rfl)) (l' := #[true, true, true, true, true, false, true, true, true, true, false, false, false, false]) rfl ?_
      refine TR.take 10 rfl (by kernel_rfl) (by kernel_rfl) (by kernel_rfl) (EvR.load rfl Try.isAgg2 (AtB.own' (by repeat (first | exact Has.hd | refine Has.tlb ?_ | refine Has.tlc ?_))) (by rfl)) (l' := #[true, true, true, true, true, false, true, true, true, true, true, false, false, false]) rfl ?_
      refine TR.one (i := 5) (by kernel_rfl) ?_
      refine TRi.le (Le.hit1 (Le.refl _)) ?_
      refine TRi.call rfl rfl rfl Try.call31 (fun w hs => g_unlink hG o.a o.b hs) (l' := #[true, true, true, true, true, true, true, true, true, true, true, false, false, false]) rfl ?_
      rintro _ _ ⟨C2, rfl, rfl, hG2⟩
      refine ⟨(fun w hs => SH.of hs (by repeat (first | exact Le.refl _ | exact Le.nil _ | refine Le.hit ?_ | refine Le.hit1 ?_ | refine Le.hit2 ?_ | refine Le.hit3 ?_ | refine Le.hit4 ?_ | refine Le.hit5 ?_ | refine Le.hit6 ?_ | refine Le.hit7 ?_ | refine Le.hit8 ?_ | refine Le.hit9 ?_ | refine Le.hit10 ?_ | refine Le.skip ?_))), ?_⟩
      refine TR.one (i := 11) (by kernel_rfl) ?_
      refine TRi.le (Le.hit2 (Le.hit2 (Le.refl _))) ?_
      refine TRi.call rfl rfl rfl Try.call36 (fun w hs => r_unlink hR hl o.a o.b hs) (l' := #[true, true, true, true, true, true, true, true, true, true, true, true, false, false]) rfl ?_
      rintro _ _ ⟨Cr2, D2, rfl, rfl, hR2⟩
      refine ⟨(fun w hs => SH.of hs (by repeat (first | exact Le.refl _ | exact Le.nil _ | refine Le.hit ?_ | refine Le.hit1 ?_ | refine Le.hit2 ?_ | refine Le.hit3 ?_ | refine Le.hit4 ?_ | refine Le.hit5 ?_ | refine Le.hit6 ?_ | refine Le.hit7 ?_ | refine Le.hit8 ?_ | refine Le.hit9 ?_ | refine Le.hit10 ?_ | refine Le.skip ?_))), ?_⟩
      refine TR.take 12 rfl (by kernel_rfl) (by kernel_rfl) (by kernel_rfl) (EvP.r (by exact EvP.isT (EvP.eq rfl rfl) (rfl))) (l' := #[true, true, true, true, true, true, true, true, true, true, true, true, true, false]) rfl ?_
      refine TR.take 13 rfl (by kernel_rfl) (by kernel_rfl) (by kernel_rfl) (EvP.r (by exact EvP.assign rfl)) (l' := #[true, true, true, true, true, true, true, true, true, true, true, true, true, true]) rfl ?_
      refine TR.done (by kernel_rfl) ?_
      refine TX.thenN rfl rfl ?_
      refine TC.ret ?_
      refine TX.blkR ?_
      refine TX.thenR ?_
      refine TX.done rfl (Res.one rfl rfl) (fun w hs => Post3.mk (C := C2) (D := Cr2) (E := D2) hs ?_ (by repeat (first | exact Le.refl _ | exact Le.nil _ | refine Le.hit ?_ | refine Le.hit1 ?_ | refine Le.hit2 ?_ | refine Le.hit3 ?_ | refine Le.hit4 ?_ | refine Le.hit5 ?_ | refine Le.hit6 ?_ | refine Le.hit7 ?_ | refine Le.hit8 ?_ | refine Le.hit9 ?_ | refine Le.hit10 ?_ | refine Le.skip ?_)))
      rw [show stp L o = (unl L o.a o.b).2 from by simp_all [stp]]
      exact ⟨rfl, hG2.up (by omega), hR2⟩
    · refine TL.p (EvP.assign rfl) ?_
      refine TL.nil ?_
      refine TX.thenN rfl rfl ?_
      refine TC.cfalse rfl ?_
      refine TC.seq ?_
      refine TC.region ?_
      refine TL.dec (EvP.eq rfl rfl) (fun h54 => ?_) (fun h54 => ?_)
      · refine TL.p (EvP.assign rfl) ?_
        refine TL.nil ?_
        refine TX.thenN rfl rfl ?_
        refine TC.ctrue rfl ?_
        refine TC.seq ?_
        refine TC.drawn (listed := #[false, false, false, false, false, false, false, false, false, false, false, false, false, false, false, false, false, false]) 18 (SH w0 [[(b5, .cells o.enc.toArray 23 (0, 0))]]) rfl rfl rfl rfl (fun w hs => SH.of hs (by repeat (first | exact Le.refl _ | exact Le.nil _ | refine Le.hit ?_ | refine Le.hit1 ?_ | refine Le.hit2 ?_ | refine Le.hit3 ?_ | refine Le.hit4 ?_ | refine Le.hit5 ?_ | refine Le.hit6 ?_ | refine Le.hit7 ?_ | refine Le.hit8 ?_ | refine Le.hit9 ?_ | refine Le.hit10 ?_ | refine Le.skip ?_))) ?_
        refine TR.take 0 rfl (by kernel_rfl) (by kernel_rfl) (by kernel_rfl) (EvP.r (by exact EvP.move rfl)) (l' := #[true, false, false, false, false, false, false, false, false, false, false, false, false, false, false, false, false, false]) rfl ?_
        refine TR.take 1 rfl (by kernel_rfl) (by kernel_rfl) (by kernel_rfl) (EvP.r (by exact EvP.fa (e := 3) rfl Try.runUnderlying23 rfl Try.sizeOf2 rfl)) (l' := #[true, true, false, false, false, false, false, false, false, false, false, false, false, false, false, false, false, false]) rfl ?_
        refine TR.take 2 rfl (by kernel_rfl) (by kernel_rfl) (by kernel_rfl) (EvR.load rfl Try.isAgg2 (AtB.own' (by repeat (first | exact Has.hd | refine Has.tlb ?_ | refine Has.tlc ?_))) (by rfl)) (l' := #[true, true, true, false, false, false, false, false, false, false, false, false, false, false, false, false, false, false]) rfl ?_
        refine TR.take 3 rfl (by kernel_rfl) (by kernel_rfl) (by kernel_rfl) (EvP.r (by exact EvP.fa (e := 1) rfl Try.runUnderlying23 rfl Try.sizeOf2 rfl)) (l' := #[true, true, true, true, false, false, false, false, false, false, false, false, false, false, false, false, false, false]) rfl ?_
        refine TR.take 4 rfl (by kernel_rfl) (by kernel_rfl) (by kernel_rfl) (EvR.load rfl Try.isAgg2 (AtB.own' (by repeat (first | exact Has.hd | refine Has.tlb ?_ | refine Has.tlc ?_))) (by rfl)) (l' := #[true, true, true, true, true, false, false, false, false, false, false, false, false, false, false, false, false, false]) rfl ?_
        refine TR.take 5 rfl (by kernel_rfl) (by kernel_rfl) (by kernel_rfl) (EvP.r (by exact EvP.fa (e := 2) rfl Try.runUnderlying23 rfl Try.sizeOf2 rfl)) (l' := #[true, true, true, true, true, true, false, false, false, false, false, false, false, false, false, false, false, false]) rfl ?_
        refine TR.take 6 rfl (by kernel_rfl) (by kernel_rfl) (by kernel_rfl) (EvR.load rfl Try.isAgg2 (AtB.own' (by repeat (first | exact Has.hd | refine Has.tlb ?_ | refine Has.tlc ?_))) (by rfl)) (l' := #[true, true, true, true, true, true, true, false, false, false, false, false, false, false, false, false, false, false]) rfl ?_
        refine TR.take 8 rfl (by kernel_rfl) (by kernel_rfl) (by kernel_rfl) (EvP.r (by exact EvP.move rfl)) (l' := #[true, true, true, true, true, true, true, false, true, false, false, false, false, false, false, false, false, false]) rfl ?_
        refine TR.take 9 rfl (by kernel_rfl) (by kernel_rfl) (by kernel_rfl) (EvP.r (by exact EvP.fa (e := 3) rfl Try.runUnderlying23 rfl Try.sizeOf2 rfl)) (l' := #[true, true, true, true, true, true, true, false, true, true, false, false, false, false, false, false, false, false]) rfl ?_
        refine TR.take 10 rfl (by kernel_rfl) (by kernel_rfl) (by kernel_rfl) (EvR.load rfl Try.isAgg2 (AtB.own' (by repeat (first | exact Has.hd | refine Has.tlb ?_ | refine Has.tlc ?_))) (by rfl)) (l' := #[true, true, true, true, true, true, true, false, true, true, true, false, false, false, false, false, false, false]) rfl ?_
        refine TR.take 11 rfl (by kernel_rfl) (by kernel_rfl) (by kernel_rfl) (EvP.r (by exact EvP.fa (e := 1) rfl Try.runUnderlying23 rfl Try.sizeOf2 rfl)) (l' := #[true, true, true, true, true, true, true, false, true, true, true, true, false, false, false, false, false, false]) rfl ?_
        refine TR.take 12 rfl (by kernel_rfl) (by kernel_rfl) (by kernel_rfl) (EvR.load rfl Try.isAgg2 (AtB.own' (by repeat (first | exact Has.hd | refine Has.tlb ?_ | refine Has.tlc ?_))) (by rfl)) (l' := #[true, true, true, true, true, true, true, false, true, true, true, true, true, false, false, false, false, false]) rfl ?_
        refine TR.take 13 rfl (by kernel_rfl) (by kernel_rfl) (by kernel_rfl) (EvP.r (by exact EvP.fa (e := 2) rfl Try.runUnderlying23 rfl Try.sizeOf2 rfl)) (l' := #[true, true, true, true, true, true, true, false, true, true, true, true, true, true, false, false, false, false]) rfl ?_
        refine TR.take 14 rfl (by kernel_rfl) (by kernel_rfl) (by kernel_rfl) (EvR.load rfl Try.isAgg2 (AtB.own' (by repeat (first | exact Has.hd | refine Has.tlb ?_ | refine Has.tlc ?_))) (by rfl)) (l' := #[true, true, true, true, true, true, true, false, true, true, true, true, true, true, true, false, false, false]) rfl ?_
        refine TR.one (i := 7) (by kernel_rfl) ?_
        refine TRi.le (Le.hit1 (Le.refl _)) ?_
        refine TRi.call rfl rfl rfl Try.call11 (fun w hs => g_watch hG hk o.r o.a o.b hs) (l' := #[true, true, true, true, true, true, true, true, true, true, true, true, true, true, true, false, false, false]) rfl ?_
        rintro _ _ ⟨C2, rfl, rfl, hG2⟩
        refine ⟨(fun w hs => SH.of hs (by repeat (first | exact Le.refl _ | exact Le.nil _ | refine Le.hit ?_ | refine Le.hit1 ?_ | refine Le.hit2 ?_ | refine Le.hit3 ?_ | refine Le.hit4 ?_ | refine Le.hit5 ?_ | refine Le.hit6 ?_ | refine Le.hit7 ?_ | refine Le.hit8 ?_ | refine Le.hit9 ?_ | refine Le.hit10 ?_ | refine Le.skip ?_))), ?_⟩
        refine TR.one (i := 15) (by kernel_rfl) ?_
        refine TRi.le (Le.hit2 (Le.hit2 (Le.refl _))) ?_
        refine TRi.call rfl rfl rfl Try.call12 (fun w hs => r_watch hR hl o.r o.a o.b hs) (l' := #[true, true, true, true, true, true, true, true, true, true, true, true, true, true, true, true, false, false]) rfl ?_
        rintro _ _ ⟨Cr2, D2, rfl, rfl, hR2⟩
        refine ⟨(fun w hs => SH.of hs (by repeat (first | exact Le.refl _ | exact Le.nil _ | refine Le.hit ?_ | refine Le.hit1 ?_ | refine Le.hit2 ?_ | refine Le.hit3 ?_ | refine Le.hit4 ?_ | refine Le.hit5 ?_ | refine Le.hit6 ?_ | refine Le.hit7 ?_ | refine Le.hit8 ?_ | refine Le.hit9 ?_ | refine Le.hit10 ?_ | refine Le.skip ?_))), ?_⟩
        refine TR.take 16 rfl (by kernel_rfl) (by kernel_rfl) (by kernel_rfl) (EvP.r (by exact EvP.isT (EvP.eq rfl rfl) (rfl))) (l' := #[true, true, true, true, true, true, true, true, true, true, true, true, true, true, true, true, true, false]) rfl ?_
        refine TR.take 17 rfl (by kernel_rfl) (by kernel_rfl) (by kernel_rfl) (EvP.r (by exact EvP.assign rfl)) (l' := #[true, true, true, true, true, true, true, true, true, true, true, true, true, true, true, true, true, true]) rfl ?_
        refine TR.done (by kernel_rfl) ?_
        refine TX.thenN rfl rfl ?_
        refine TC.ret ?_
        refine TX.blkR ?_
        refine TX.thenR ?_
        refine TX.done rfl (Res.one rfl rfl) (fun w hs => Post3.mk (C := C2) (D := Cr2) (E := D2) hs ?_ (by repeat (first | exact Le.refl _ | exact Le.nil _ | refine Le.hit ?_ | refine Le.hit1 ?_ | refine Le.hit2 ?_ | refine Le.hit3 ?_ | refine Le.hit4 ?_ | refine Le.hit5 ?_ | refine Le.hit6 ?_ | refine Le.hit7 ?_ | refine Le.hit8 ?_ | refine Le.hit9 ?_ | refine Le.hit10 ?_ | refine Le.skip ?_)))
        rw [show stp L o = (wat L o.r o.a o.b).2 from by simp_all [stp]]
        exact ⟨rfl, hG2, hR2⟩
      · refine TL.p (EvP.assign rfl) ?_
        refine TL.nil ?_
        refine TX.thenN rfl rfl ?_
        refine TC.cfalse rfl ?_
        refine TC.seq ?_
        refine TC.region ?_
        refine TL.dec (EvP.eq rfl rfl) (fun h73 => ?_) (fun h73 => ?_)
        · refine TL.p (EvP.assign rfl) ?_
          refine TL.nil ?_
          refine TX.thenN rfl rfl ?_
          refine TC.ctrue rfl ?_
          refine TC.seq ?_
          refine TC.region ?_
          refine TL.p (EvP.move rfl) ?_
          refine TL.p (EvP.fa (e := 3) rfl Try.runUnderlying23 rfl Try.sizeOf2 rfl) ?_
          refine TL.r (EvR.load rfl Try.isAgg2 (AtB.own (by repeat (first | exact Has.hd | refine Has.tlb ?_ | refine Has.tlc ?_))) (by rfl)) ?_
          refine TL.le (Le.hit1 (Le.refl _)) ?_
          refine TL.callB rfl rfl Try.call28 (fun w hs => g_leave hG o.r hs) ?_
          rintro _ C2 ⟨rfl, hG2⟩
          refine TL.p (EvP.move rfl) ?_
          refine TL.p (EvP.extract rfl rfl) ?_
          refine TL.p (EvP.extract rfl rfl) ?_
          refine TL.alloc Try.zeroValue48 rfl (fun b7 => ?_)
          refine TL.u (EvU.store rfl rfl Try.sizeOf48 rfl rfl rfl rfl (by repeat (first | exact Has.hd | refine Has.tlb ?_ | refine Has.tlc ?_)) (by repeat (first | exact SetLs.nil | exact SetL.here | apply SetLs.cons | apply SetL.there)) (by repeat (first | exact Upd.hd | apply Upd.tlb | apply Upd.tlc))) ?_
          refine TL.p (EvP.assign rfl) ?_
          refine TL.nil ?_
          refine TX.thenN rfl rfl ?_
          refine TC.seq ?_
          refine TC.region ?_
          refine TL.p (EvP.move rfl) ?_
          refine TL.p (EvP.fa (e := 3) rfl Try.runUnderlying23 rfl Try.sizeOf2 rfl) ?_
          refine TL.r (EvR.load rfl Try.isAgg2 (AtB.own (by repeat (first | exact Has.hd | refine Has.tlb ?_ | refine Has.tlc ?_))) (by rfl)) ?_
          refine TL.le (Le.hit3 (Le.hit3 (Le.refl _))) ?_
          refine TL.callC rfl rfl Try.call37 (fun w hs => r_leave hR hl o.r hs) ?_
          rintro _ Cr2 D2 ⟨rfl, hR2⟩
          refine TL.p (EvP.move rfl) ?_
          refine TL.p (EvP.extract rfl rfl) ?_
          refine TL.p (EvP.extract rfl rfl) ?_
          refine TL.alloc Try.zeroValue48 rfl (fun b9 => ?_)
          refine TL.u (EvU.store rfl rfl Try.sizeOf48 rfl rfl rfl rfl (by repeat (first | exact Has.hd | refine Has.tlb ?_ | refine Has.tlc ?_)) (by repeat (first | exact SetLs.nil | exact SetL.here | apply SetLs.cons | apply SetL.there)) (by repeat (first | exact Upd.hd | apply Upd.tlb | apply Upd.tlc))) ?_
          refine TL.p (EvP.assign rfl) ?_
          refine TL.nil ?_
          refine TX.thenN rfl rfl ?_
          refine TC.seq ?_
          refine TC.region ?_
          refine TL.r (EvR.loadN (vs := [_, _, _]) rfl Try.isAgg48 Try.sizeOf48 (AtB.own (by repeat (first | exact Has.hd | refine Has.tlb ?_ | refine Has.tlc ?_))) (by exact ⟨rfl, rfl, rfl,  trivial⟩)) ?_
          refine TL.r (EvR.loadN (vs := [_, _, _]) rfl Try.isAgg48 Try.sizeOf48 (AtB.own (by repeat (first | exact Has.hd | refine Has.tlb ?_ | refine Has.tlc ?_))) (by exact ⟨rfl, rfl, rfl,  trivial⟩)) ?_
          refine TL.p (EvP.isT (eqBond (fnd L o.r).1 (fnd L o.r).1) rfl) ?_
          refine TL.p (EvP.move rfl) ?_
          refine TL.gY rfl rfl rfl ?_
          refine TL.p (EvP.move rfl) ?_
          refine TL.gY rfl rfl rfl ?_
          refine TL.p (EvP.move rfl) ?_
          refine TL.gY rfl rfl rfl ?_
          refine TL.p (EvP.isT (EvP.eq rfl rfl) (rfl)) ?_
          refine TL.p (EvP.pickT rfl rfl) ?_
          refine TL.p (EvP.assign rfl) ?_
          refine TL.nil ?_
          refine TX.thenN rfl rfl ?_
          refine TC.ret ?_
          refine TX.blkR ?_
          refine TX.thenR ?_
          refine TX.done rfl (Res.one rfl rfl) (fun w hs => Post3.mk (C := C2) (D := Cr2) (E := D2) hs ?_ (by repeat (first | exact Le.refl _ | exact Le.nil _ | refine Le.hit ?_ | refine Le.hit1 ?_ | refine Le.hit2 ?_ | refine Le.hit3 ?_ | refine Le.hit4 ?_ | refine Le.hit5 ?_ | refine Le.hit6 ?_ | refine Le.hit7 ?_ | refine Le.hit8 ?_ | refine Le.hit9 ?_ | refine Le.hit10 ?_ | refine Le.skip ?_)))
          rw [show stp L o = (lev L o.r).2 from by simp_all [stp]]
          exact ⟨rfl, hG2.up (by omega), hR2⟩
        · refine TL.p (EvP.assign rfl) ?_
          refine TL.nil ?_
          refine TX.thenN rfl rfl ?_
          refine TC.cfalse rfl ?_
          refine TC.seq ?_
          refine TC.region ?_
          refine TL.dec (EvP.eq rfl rfl) (fun h97 => ?_) (fun h97 => ?_)
          · refine TL.p (EvP.assign rfl) ?_
            refine TL.nil ?_
            refine TX.thenN rfl rfl ?_
            refine TC.ctrue rfl ?_
            refine TC.seq ?_
            refine TC.region ?_
            refine TL.p (EvP.move rfl) ?_
            refine TL.p (EvP.fa (e := 3) rfl Try.runUnderlying23 rfl Try.sizeOf2 rfl) ?_
            refine TL.r (EvR.load rfl Try.isAgg2 (AtB.own (by repeat (first | exact Has.hd | refine Has.tlb ?_ | refine Has.tlc ?_))) (by rfl)) ?_
            refine TL.le (Le.hit1 (Le.refl _)) ?_
            refine TL.callB rfl rfl Try.call29 (fun w hs => g_find hG o.r hs) ?_
            rintro _ C9 ⟨rfl, hC9⟩
            replace hC9 := hC9.symm
            subst hC9
            refine TL.p (EvP.move rfl) ?_
            refine TL.p (EvP.extract rfl rfl) ?_
            refine TL.p (EvP.extract rfl rfl) ?_
            refine TL.alloc Try.zeroValue48 rfl (fun b11 => ?_)
            refine TL.u (EvU.store rfl rfl Try.sizeOf48 rfl rfl rfl rfl (by repeat (first | exact Has.hd | refine Has.tlb ?_ | refine Has.tlc ?_)) (by repeat (first | exact SetLs.nil | exact SetL.here | apply SetLs.cons | apply SetL.there)) (by repeat (first | exact Upd.hd | apply Upd.tlb | apply Upd.tlc))) ?_
            refine TL.p (EvP.assign rfl) ?_
            refine TL.nil ?_
            refine TX.thenN rfl rfl ?_
            refine TC.seq ?_
            refine TC.region ?_
            refine TL.p (EvP.move rfl) ?_
            refine TL.p (EvP.fa (e := 3) rfl Try.runUnderlying23 rfl Try.sizeOf2 rfl) ?_
            refine TL.r (EvR.load rfl Try.isAgg2 (AtB.own (by repeat (first | exact Has.hd | refine Has.tlb ?_ | refine Has.tlc ?_))) (by rfl)) ?_
            refine TL.le (Le.hit3 (Le.hit3 (Le.refl _))) ?_
            refine TL.callA rfl rfl Try.call38 (fun w hs => r_find hR hl o.r hs) ?_
            rintro _ rfl
            refine TL.p (EvP.move rfl) ?_
            refine TL.p (EvP.extract rfl rfl) ?_
            refine TL.p (EvP.extract rfl rfl) ?_
            refine TL.alloc Try.zeroValue48 rfl (fun b13 => ?_)
            refine TL.u (EvU.store rfl rfl Try.sizeOf48 rfl rfl rfl rfl (by repeat (first | exact Has.hd | refine Has.tlb ?_ | refine Has.tlc ?_)) (by repeat (first | exact SetLs.nil | exact SetL.here | apply SetLs.cons | apply SetL.there)) (by repeat (first | exact Upd.hd | apply Upd.tlb | apply Upd.tlc))) ?_
            refine TL.p (EvP.assign rfl) ?_
            refine TL.nil ?_
            refine TX.thenN rfl rfl ?_
            refine TC.seq ?_
            refine TC.region ?_
            refine TL.r (EvR.loadN (vs := [_, _, _]) rfl Try.isAgg48 Try.sizeOf48 (AtB.own (by repeat (first | exact Has.hd | refine Has.tlb ?_ | refine Has.tlc ?_))) (by exact ⟨rfl, rfl, rfl,  trivial⟩)) ?_
            refine TL.r (EvR.loadN (vs := [_, _, _]) rfl Try.isAgg48 Try.sizeOf48 (AtB.own (by repeat (first | exact Has.hd | refine Has.tlb ?_ | refine Has.tlc ?_))) (by exact ⟨rfl, rfl, rfl,  trivial⟩)) ?_
            refine TL.p (EvP.isT (eqBond (fnd L o.r).1 (fnd L o.r).1) rfl) ?_
            refine TL.p (EvP.move rfl) ?_
            refine TL.gY rfl rfl rfl ?_
            refine TL.p (EvP.move rfl) ?_
            refine TL.gY rfl rfl rfl ?_
            refine TL.p (EvP.move rfl) ?_
            refine TL.gY rfl rfl rfl ?_
            refine TL.p (EvP.isT (EvP.eq rfl rfl) (rfl)) ?_
            refine TL.p (EvP.pickT rfl rfl) ?_
            refine TL.p (EvP.assign rfl) ?_
            refine TL.nil ?_
            refine TX.thenN rfl rfl ?_
            refine TC.ret ?_
            refine TX.blkR ?_
            refine TX.thenR ?_
            refine TX.done rfl (Res.one rfl rfl) (fun w hs => Post3.mk (C := C) (D := Cr) (E := D) hs ?_ (by repeat (first | exact Le.refl _ | exact Le.nil _ | refine Le.hit ?_ | refine Le.hit1 ?_ | refine Le.hit2 ?_ | refine Le.hit3 ?_ | refine Le.hit4 ?_ | refine Le.hit5 ?_ | refine Le.hit6 ?_ | refine Le.hit7 ?_ | refine Le.hit8 ?_ | refine Le.hit9 ?_ | refine Le.hit10 ?_ | refine Le.skip ?_)))
            rw [show stp L o = L from by simp_all [stp]]
            exact ⟨rfl, hG.up (by omega), hR⟩
          · refine TL.p (EvP.assign rfl) ?_
            refine TL.nil ?_
            refine TX.thenN rfl rfl ?_
            refine TC.cfalse rfl ?_
            refine TC.seq ?_
            refine TC.region ?_
            refine TL.dec (EvP.eq rfl rfl) (fun h121 => ?_) (fun h121 => ?_)
            · refine TL.p (EvP.assign rfl) ?_
              refine TL.nil ?_
              refine TX.thenN rfl rfl ?_
              refine TC.ctrue rfl ?_
              refine TC.seq ?_
              refine TC.region ?_
              refine TL.p (EvP.move rfl) ?_
              refine TL.p (EvP.fa (e := 1) rfl Try.runUnderlying23 rfl Try.sizeOf2 rfl) ?_
              refine TL.r (EvR.load rfl Try.isAgg2 (AtB.own (by repeat (first | exact Has.hd | refine Has.tlb ?_ | refine Has.tlc ?_))) (by rfl)) ?_
              by_cases hp : okPid o.a = true
              · refine TL.le (Le.hit1 (Le.refl _)) ?_
                refine TL.callC rfl rfl Try.call19 (fun w hs => g_end hG o.a hp hs) ?_
                rintro _ C2 DT ⟨t, rfl, ht, hG2⟩
                obtain ⟨a3, c3, rfl, _, _⟩ := ht.len
                refine TL.p (EvP.move rfl) ?_
                refine TL.p (EvP.extract rfl rfl) ?_
                refine TL.p (EvP.extract rfl rfl) ?_
                refine TL.p (EvP.assign rfl) ?_
                refine TL.p (EvP.assign rfl) ?_
                refine TL.nil ?_
                refine TX.thenN rfl rfl ?_
                refine TC.seq ?_
                refine TC.region ?_
                refine TL.p (EvP.move rfl) ?_
                refine TL.p (EvP.fa (e := 1) rfl Try.runUnderlying23 rfl Try.sizeOf2 rfl) ?_
                refine TL.r (EvR.load rfl Try.isAgg2 (AtB.own (by repeat (first | exact Has.hd | refine Has.tlb ?_ | refine Has.tlc ?_))) (by rfl)) ?_
                refine TL.le (Le.hit3 (Le.hit3 (Le.refl _))) ?_
                refine TL.callD rfl rfl Try.call39 (fun w hs => r_end hR hl o.a hp hs) ?_
                rintro _ Cr2 D2 E2 ⟨t2, rfl, ht2, hR2⟩
                refine TL.p (EvP.move rfl) ?_
                refine TL.p (EvP.extract rfl rfl) ?_
                refine TL.p (EvP.extract rfl rfl) ?_
                refine TL.p (EvP.assign rfl) ?_
                refine TL.p (EvP.assign rfl) ?_
                refine TL.nil ?_
                refine TX.thenN rfl rfl ?_
                refine TC.seq ?_
                refine TC.region ?_
                refine TL.p (EvP.move rfl) ?_
                refine TL.p (EvP.move rfl) ?_
                refine TL.callA rfl rfl Try.call14 (fun w hs => bonds_spec (ht.els encB_ok (by simp)) (ht2.els encB_ok (by simp)) (by have := endT_len (L := L) (p := o.a); omega) hs) ?_
                rintro _ rfl
                refine TL.p (EvP.move rfl) ?_
                refine TL.gY rfl rfl rfl ?_
                refine TL.p (EvP.move rfl) ?_
                refine TL.gY rfl rfl rfl ?_
                refine TL.p (EvP.move rfl) ?_
                refine TL.gY rfl rfl rfl ?_
                refine TL.p (EvP.eq rfl rfl) ?_
                refine TL.p (EvP.pickT rfl rfl) ?_
                refine TL.p (EvP.assign rfl) ?_
                refine TL.nil ?_
                refine TX.thenN rfl rfl ?_
                refine TC.seq ?_
                refine TC.seq ?_
                refine TC.region ?_
                refine TL.p (EvP.move rfl) ?_
                refine TL.p (EvP.lenS Try.runUnderlying27 rfl) ?_
                refine TL.p (EvP.move rfl) ?_
                refine TL.nil ?_
                refine TX.thenN rfl rfl ?_
                refine TC.block ?_
                refine TC.loop (ι := Nat × List Bond × Chunk) (fun (i, ys, CT) => [(15, .slice a3 (endT L o.a).length c3), (145, .int .i64 (endT L o.a).length), (146, .int .i64 i), (19, .bool true)]) (fun (i, ys, CT) => CT :: C2 :: Cr2 :: D2 :: R) (fun (i, ys, CT) => ys.length = (endT L o.a).length ∧ Sl 48 3 Bond.enc (.slice a3 (endT L o.a).length c3) ys CT) (fun (i, ys, CT) => (endT L o.a).length - i) ((0, endT L o.a, DT)) (⟨rfl, ht⟩) ⟨rfl, rfl, rfl, rfl, trivial⟩ (by repeat (first | exact Le.refl _ | exact Le.nil _ | refine Le.hit ?_ | refine Le.hit1 ?_ | refine Le.hit2 ?_ | refine Le.hit3 ?_ | refine Le.hit4 ?_ | refine Le.hit5 ?_ | refine Le.hit6 ?_ | refine Le.hit7 ?_ | refine Le.hit8 ?_ | refine Le.hit9 ?_ | refine Le.hit10 ?_ | refine Le.skip ?_)) ?_
                rintro ⟨i, ys, CT⟩ ⟨hlen, hys⟩
                change TC _ _ [(15, .slice a3 (endT L o.a).length c3), (145, .int .i64 (endT L o.a).length), (146, .int .i64 i), (19, .bool true)] (CT :: C2 :: Cr2 :: D2 :: R) _
                have hel := endT_len (L := L) (p := o.a)
                refine TC.seq ?_
                refine TC.region ?_
                refine TL.dec (EvP.lt rfl rfl) (fun h147 => ?_) (fun h147 => ?_)
                · refine TL.nil ?_
                  refine TX.thenN rfl rfl ?_
                  refine TC.seq ?_
                  refine TC.ctrue rfl ?_
                  refine TC.skip ?_
                  refine TX.thenN rfl rfl ?_
                  refine TC.seq ?_
                  refine TC.block ?_
                  refine TC.seq ?_
                  refine TC.region ?_
                  refine TL.p (EvP.move rfl) ?_
                  refine TL.p (EvP.assign rfl) ?_
                  refine TL.nil ?_
                  refine TX.thenN rfl rfl ?_
                  refine TC.region ?_
                  refine TL.p (EvP.move rfl) ?_
                  refine TL.p (EvP.move rfl) ?_
                  refine TL.p (EvP.buildS (is := [0]) (xs := [_]) rfl Try.runUnderlying48 Try.zeroValue48 rfl (.cons Try.sizeOf2 (.cons Try.sizeOf2 (.cons Try.sizeOf2 .nil))) rfl rfl rfl) ?_
                  refine TL.elemW hys encB_ok (by omega) Try.runUnderlying27 Try.sizeOf48 rfl rfl (fun bE oE lE hCE hWE => ?_)
                  subst hCE
                  obtain ⟨l2, hS2, hys2⟩ := hWE ⟨99, 0, 0⟩
                  refine TL.u (EvU.store rfl rfl Try.sizeOf48 rfl rfl rfl rfl (by repeat (first | exact Has.hd | refine Has.tlb ?_ | refine Has.tlc ?_)) hS2 (by repeat (first | exact Upd.hd | apply Upd.tlb | apply Upd.tlc))) ?_
                  refine TL.nil ?_
                  refine TX.blkN ?_
                  refine TX.thenN rfl rfl ?_
                  refine TC.region ?_
                  refine TL.p (EvP.add rfl rfl (by omega)) ?_
                  refine TL.p (EvP.move rfl) ?_
                  refine TL.nil ?_
                  refine TX.back ((i + 1, ys.set i ⟨99, 0, 0⟩, [(bE, .cells l2.toArray 48 (0, 0))])) (⟨by rw [List.length_set]; exact hlen, hys2⟩) (by simp only; omega) ⟨rfl, rfl, rfl, rfl, trivial⟩ (by repeat (first | exact Le.refl _ | exact Le.nil _ | refine Le.hit ?_ | refine Le.hit1 ?_ | refine Le.hit2 ?_ | refine Le.hit3 ?_ | refine Le.hit4 ?_ | refine Le.hit5 ?_ | refine Le.hit6 ?_ | refine Le.hit7 ?_ | refine Le.hit8 ?_ | refine Le.hit9 ?_ | refine Le.hit10 ?_ | refine Le.skip ?_))
                · refine TL.nil ?_
                  refine TX.thenN rfl rfl ?_
                  refine TC.seq ?_
                  refine TC.cfalse rfl ?_
                  refine TC.exit ?_
                  refine TX.thenE ?_
                  refine TX.thenE ?_
                  refine TX.blkH ?_
                  refine TX.thenN rfl rfl ?_
                  refine TC.seq ?_
                  refine TC.region ?_
                  refine TL.p (EvP.move rfl) ?_
                  refine TL.p (EvP.assign rfl) ?_
                  refine TL.nil ?_
                  refine TX.thenN rfl rfl ?_
                  refine TC.ret ?_
                  refine TX.blkR ?_
                  refine TX.thenR ?_
                  refine TX.done rfl (Res.one rfl rfl) (fun w hs => Post3.mk (C := C2) (D := Cr2) (E := D2) hs ?_ (by repeat (first | exact Le.refl _ | exact Le.nil _ | refine Le.hit ?_ | refine Le.hit1 ?_ | refine Le.hit2 ?_ | refine Le.hit3 ?_ | refine Le.hit4 ?_ | refine Le.hit5 ?_ | refine Le.hit6 ?_ | refine Le.hit7 ?_ | refine Le.hit8 ?_ | refine Le.hit9 ?_ | refine Le.hit10 ?_ | refine Le.skip ?_)))
                  rw [show stp L o = endL L o.a from by simp_all [stp]]
                  exact ⟨rfl, hG2.up (by omega), hR2⟩
              · have hp : okPid o.a = false := by simpa using hp
                refine TL.le (Le.hit1 (Le.refl _)) ?_
                refine TL.callB rfl rfl Try.call19 (fun w hs => g_endN hG o.a hp hs) ?_
                rintro _ C9 ⟨rfl, hC9⟩
                replace hC9 := hC9.symm
                subst hC9
                refine TL.p (EvP.move rfl) ?_
                refine TL.p (EvP.extract rfl rfl) ?_
                refine TL.p (EvP.extract rfl rfl) ?_
                refine TL.p (EvP.assign rfl) ?_
                refine TL.p (EvP.assign rfl) ?_
                refine TL.nil ?_
                refine TX.thenN rfl rfl ?_
                refine TC.seq ?_
                refine TC.region ?_
                refine TL.p (EvP.move rfl) ?_
                refine TL.p (EvP.fa (e := 1) rfl Try.runUnderlying23 rfl Try.sizeOf2 rfl) ?_
                refine TL.r (EvR.load rfl Try.isAgg2 (AtB.own (by repeat (first | exact Has.hd | refine Has.tlb ?_ | refine Has.tlc ?_))) (by rfl)) ?_
                refine TL.le (Le.hit2 (Le.hit2 (Le.refl _))) ?_
                refine TL.callA rfl rfl Try.call39 (fun w hs => r_endN hR hl o.a hp hs) ?_
                rintro _ rfl
                refine TL.p (EvP.move rfl) ?_
                refine TL.p (EvP.extract rfl rfl) ?_
                refine TL.p (EvP.extract rfl rfl) ?_
                refine TL.p (EvP.assign rfl) ?_
                refine TL.p (EvP.assign rfl) ?_
                refine TL.nil ?_
                refine TX.thenN rfl rfl ?_
                refine TC.seq ?_
                refine TC.region ?_
                refine TL.p (EvP.move rfl) ?_
                refine TL.p (EvP.move rfl) ?_
                refine TL.callA rfl rfl Try.call14 (fun w hs => bonds_spec (xs := []) Els.nil Els.nil (by simp) hs) ?_
                rintro _ rfl
                refine TL.p (EvP.move rfl) ?_
                refine TL.gY rfl rfl rfl ?_
                refine TL.p (EvP.move rfl) ?_
                refine TL.gY rfl rfl rfl ?_
                refine TL.p (EvP.move rfl) ?_
                refine TL.gY rfl rfl rfl ?_
                refine TL.p (EvP.eq rfl rfl) ?_
                refine TL.p (EvP.pickT rfl rfl) ?_
                refine TL.p (EvP.assign rfl) ?_
                refine TL.nil ?_
                refine TX.thenN rfl rfl ?_
                refine TC.seq ?_
                refine TC.seq ?_
                refine TC.region ?_
                refine TL.p (EvP.move rfl) ?_
                refine TL.p (EvP.lenS Try.runUnderlying27 rfl) ?_
                refine TL.p (EvP.move rfl) ?_
                refine TL.nil ?_
                refine TX.thenN rfl rfl ?_
                refine TC.block ?_
                refine TC.loop (ι := Unit) (fun _ => [(145, .int .i64 0), (146, .int .i64 0), (19, .bool true)]) (fun _ => [(b5, .cells o.enc.toArray 23 (0, 0))] :: C :: Cr :: D :: R) (fun _ => True) (fun _ => 0) (()) (trivial) ⟨rfl, rfl, rfl, trivial⟩ (by repeat (first | exact Le.refl _ | exact Le.nil _ | refine Le.hit ?_ | refine Le.hit1 ?_ | refine Le.hit2 ?_ | refine Le.hit3 ?_ | refine Le.hit4 ?_ | refine Le.hit5 ?_ | refine Le.hit6 ?_ | refine Le.hit7 ?_ | refine Le.hit8 ?_ | refine Le.hit9 ?_ | refine Le.hit10 ?_ | refine Le.skip ?_)) ?_
                rintro _ _
                change TC _ _ [(145, .int .i64 0), (146, .int .i64 0), (19, .bool true)] ([(b5, .cells o.enc.toArray 23 (0, 0))] :: C :: Cr :: D :: R) _
                refine TC.seq ?_
                refine TC.region ?_
                refine TL.p (EvP.lt rfl rfl) ?_
                refine TL.nil ?_
                refine TX.thenN rfl rfl ?_
                refine TC.seq ?_
                refine TC.cfalse rfl ?_
                refine TC.exit ?_
                refine TX.thenE ?_
                refine TX.thenE ?_
                refine TX.blkH ?_
                refine TX.thenN rfl rfl ?_
                refine TC.seq ?_
                refine TC.region ?_
                refine TL.p (EvP.move rfl) ?_
                refine TL.p (EvP.assign rfl) ?_
                refine TL.nil ?_
                refine TX.thenN rfl rfl ?_
                refine TC.ret ?_
                refine TX.blkR ?_
                refine TX.thenR ?_
                refine TX.done rfl (Res.one rfl rfl) (fun w hs => Post3.mk (C := C) (D := Cr) (E := D) hs ?_ (by repeat (first | exact Le.refl _ | exact Le.nil _ | refine Le.hit ?_ | refine Le.hit1 ?_ | refine Le.hit2 ?_ | refine Le.hit3 ?_ | refine Le.hit4 ?_ | refine Le.hit5 ?_ | refine Le.hit6 ?_ | refine Le.hit7 ?_ | refine Le.hit8 ?_ | refine Le.hit9 ?_ | refine Le.hit10 ?_ | refine Le.skip ?_)))
                rw [show stp L o = L from by simp_all [stp]]
                exact ⟨rfl, hG.up (by omega), hR⟩
            · refine TL.p (EvP.assign rfl) ?_
              refine TL.nil ?_
              refine TX.thenN rfl rfl ?_
              refine TC.cfalse rfl ?_
              refine TC.skip ?_
              refine TX.blkN ?_
              refine TX.thenN rfl rfl ?_
              refine TC.seq ?_
              refine TC.region ?_
              refine TL.p (EvP.assign rfl) ?_
              refine TL.nil ?_
              refine TX.thenN rfl rfl ?_
              refine TC.ret ?_
              refine TX.done rfl (Res.one rfl rfl) (fun w hs => Post3.mk (C := C) (D := Cr) (E := D) hs ?_ (by repeat (first | exact Le.refl _ | exact Le.nil _ | refine Le.hit ?_ | refine Le.hit1 ?_ | refine Le.hit2 ?_ | refine Le.hit3 ?_ | refine Le.hit4 ?_ | refine Le.hit5 ?_ | refine Le.hit6 ?_ | refine Le.hit7 ?_ | refine Le.hit8 ?_ | refine Le.hit9 ?_ | refine Le.hit10 ?_ | refine Le.skip ?_)))
              rw [show stp L o = L from by simp_all [stp]]
              exact ⟨rfl, hG.up (by omega), hR⟩
end Go.Proofs.Ytnmljhhbabjlcaa
