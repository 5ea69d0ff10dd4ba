/-
  The walk of LinksGroup: whatever the script and the two pids, it answers true.
-/
import Derived.Test.YtnmljhhbabjlcaaLo
import Derived.Test.YtnmljhhbabjlcaaLv
set_option linter.unusedSimpArgs false
set_option linter.unusedVariables false
set_option maxRecDepth 100000
namespace Go.Proofs.Ytnmljhhbabjlcaa
open Go Go.RowKit

theorem g_group {w0 w : World} {R : List Chunk} {k : Int} {L : List Bond} {g : Nat} {C : Chunk} (hG : IsG k L g C) (p : Int) (hst : St w0 w (C :: R)) : Calls Try.prog 23 #[.pointer (some ⟨g, 0, none⟩), .int .i64 p] w (Post1 w0 (C :: R) fun u E => SlI u (grp L p) E) := by
  by_cases hp : okPid p = true
  · exact g_groupY hG hp hst
  · have hp' : okPid p = false := by simpa using hp
    refine (g_groupN hp' hst).mono ?_
    rintro e w' ⟨v, Hq, rfl, ⟨rfl, rfl⟩, hs⟩
    refine ⟨_, [[]], rfl, ⟨[], rfl, ?_⟩, hs.le Le.nilC⟩
    unfold grp
    rw [if_neg hp]
    exact Sl.nil
theorem r_group {w0 w : World} {R : List Chunk} {L : List Bond} {rr : Nat} {Cr D : Chunk} (hok : LOk L) (hR : RQ rr L Cr D) (p : Int) (hst : St w0 w (Cr :: D :: R)) : Calls Try.prog 47 #[.pointer (some ⟨rr, 0, none⟩), .int .i64 p] w (Post1 w0 (Cr :: D :: R) fun u E => SlI u (grp L p) E) := by
  by_cases hp : okPid p = true
  · exact r_groupY hok hR hp hst
  · have hp' : okPid p = false := by simpa using hp
    refine (r_groupN hp' hst).mono ?_
    rintro e w' ⟨v, Hq, rfl, ⟨rfl, rfl⟩, hs⟩
    refine ⟨_, [[]], rfl, ⟨[], rfl, ?_⟩, hs.le Le.nilC⟩
    unfold grp
    rw [if_neg hp]
    exact Sl.nil

theorem group_walk {w0 w : World} {R : List Chunk} {v : Value} {ops : List LOp} (he : Els (fun w => w = w0) v 4 LOp.enc 23 ops) (hsz : ops.length < 4611686018427387904) (a b : Int) (hst : St w0 w R) : Calls Try.prog 5 #[v, .int .i64 a, .int .i64 b] w (Post0 w0 R fun u => u = .bool true) := by
  refine calls_of (args := [_, _, _]) Try.func5 rfl Try.ntmps5 hst ?_
  refine TC.seq ?_
  refine TC.region ?_
  refine TL.p (EvP.assign rfl) ?_
  refine TL.nil ?_
  refine TX.thenN rfl rfl ?_
  refine TC.seq ?_
  refine TC.region ?_
  refine TL.p (EvP.move rfl) ?_
  refine TL.callD rfl rfl Try.call17 (fun w hs => laid_spec he hsz hs) ?_
  rintro _ C Cr D ⟨g, rr, L, rfl, hG, hR⟩
  skip
  refine TL.p (EvP.move rfl) ?_
  refine TL.p (EvP.extract rfl rfl) ?_
  refine TL.p (EvP.extract rfl rfl) ?_
  refine TL.p (EvP.assign rfl) ?_
  refine TL.p (EvP.assign rfl) ?_
  refine TL.nil ?_
  refine TX.thenN rfl rfl ?_
  refine TC.seq ?_
  refine TC.seq ?_
  refine TC.region ?_
  refine TL.p (EvP.move rfl) ?_
  refine TL.p (EvP.eqPtrNil Try.runUnderlying24 rfl rfl) ?_
  refine TL.nil ?_
  refine TX.thenN rfl rfl ?_
  refine TC.cfalse rfl ?_
  refine TC.skip ?_
  refine TX.thenN rfl rfl ?_
  refine TC.seq ?_
  refine TC.region ?_
  refine TL.p (EvP.move rfl) ?_
  refine TL.p (EvP.move rfl) ?_
  refine TL.callB rfl rfl Try.call23 (fun w hs => g_group hG a hs) ?_
  rintro _ Cl hl
  obtain ⟨al, cl, rfl, _, _⟩ := hl.len
  refine TL.p (EvP.move rfl) ?_
  refine TL.p (EvP.move rfl) ?_
  refine TL.le (Le.hit1 (Le.refl _)) ?_
  refine TL.callB rfl rfl Try.call23 (fun w hs => g_group hG b hs) ?_
  rintro _ Cm hm
  obtain ⟨am, cm, rfl, _, _⟩ := hm.len
  have hok := hG.ok
  have hll := hok.len
  have hla := grp_len hok (p := a)
  have hlb := grp_len hok (p := b)
  refine TL.p (EvP.assign rfl) ?_
  refine TL.p (EvP.assign rfl) ?_
  refine TL.nil ?_
  refine TX.thenN rfl rfl ?_
  refine TC.seq ?_
  refine TC.region ?_
  refine TL.p (EvP.assign rfl) ?_
  refine TL.nil ?_
  refine TX.thenN rfl rfl ?_
  refine TC.seq ?_
  refine TC.seq ?_
  refine TC.region ?_
  refine TL.p (EvP.move rfl) ?_
  refine TL.p (EvP.lenS Try.runUnderlying50 rfl) ?_
  refine TL.p (EvP.move rfl) ?_
  refine TL.nil ?_
  refine TX.thenN rfl rfl ?_
  refine TC.block ?_
  refine TC.loop (ι := Nat × Nat) (fun (i, c) => [(29, .slice al (grp L a).length cl), (30, .int .i64 (grp L a).length), (31, .int .i64 i), (7, .pointer (some ⟨g, 0, none⟩)), (9, .slice al (grp L a).length cl), (10, .slice am (grp L b).length cm), (11, .int .i64 c)]) (fun (i, c) => Cl :: Cm :: C :: R) (fun (i, c) => i ≤ (grp L a).length ∧ c ≤ i * 4096 ∧ (0 < c → ∃ y, y ∈ grp L a ∧ y ∈ grp L b)) (fun (i, c) => (grp L a).length - i) ((0, 0)) (⟨Nat.zero_le _, Nat.le_refl _, fun h => absurd h (by omega)⟩) ⟨rfl, rfl, rfl, rfl, rfl, rfl, rfl, trivial⟩ (by repeat (first | exact Le.refl _ | exact Le.nil _ | refine Le.hit ?_ | refine Le.hit1 ?_ | refine Le.hit2 ?_ | refine Le.hit3 ?_ | refine Le.hit4 ?_ | refine Le.hit5 ?_ | refine Le.hit6 ?_ | refine Le.hit7 ?_ | refine Le.hit8 ?_ | refine Le.hit9 ?_ | refine Le.hit10 ?_ | refine Le.skip ?_)) ?_
  rintro ⟨i, c⟩ ⟨hi, hc1, hc2⟩
  change TC _ _ [(29, .slice al (grp L a).length cl), (30, .int .i64 (grp L a).length), (31, .int .i64 i), (7, .pointer (some ⟨g, 0, none⟩)), (9, .slice al (grp L a).length cl), (10, .slice am (grp L b).length cm), (11, .int .i64 c)] (Cl :: Cm :: C :: R) _
  refine TC.seq ?_
  refine TC.region ?_
  refine TL.dec (EvP.lt rfl rfl) (fun h32 => ?_) (fun h32 => ?_)
  · refine TL.nil ?_
    refine TX.thenN rfl rfl ?_
    refine TC.seq ?_
    refine TC.ctrue rfl ?_
    refine TC.skip ?_
    refine TX.thenN rfl rfl ?_
    refine TC.seq ?_
    refine TC.block ?_
    refine TC.seq ?_
    refine TC.region ?_
    have hlt : i < (grp L a).length := by omega
    obtain ⟨x, hx⟩ : ∃ x, (grp L a)[i]? = some x := ⟨_, List.getElem?_eq_getElem hlt⟩
    refine TL.elem (hl.el encI_ok (j := i) (x := x) hx (by simp)) Try.runUnderlying50 Try.sizeOf2 rfl rfl (fun bE oE lE _ _ hE hcE => ?_)
    refine TL.r (EvR.load rfl Try.isAgg2 hE hcE.1) ?_
    refine TL.p (EvP.assign rfl) ?_
    refine TL.nil ?_
    refine TX.thenN rfl rfl ?_
    refine TC.seq ?_
    refine TC.seq ?_
    refine TC.region ?_
    refine TL.p (EvP.move rfl) ?_
    refine TL.p (EvP.move rfl) ?_
    refine TL.le (Le.hit2 (Le.refl _)) ?_
    refine TL.callB rfl rfl Try.call23 (fun w hs => g_group hG x hs) ?_
    rintro _ Cx hgx
    rw [grp_same hok (List.mem_of_getElem? hx)] at hgx
    refine TL.p (EvP.move rfl) ?_
    refine TL.callA rfl rfl Try.call24 (fun w hs => pids_spec (hgx.els encI_ok (by simp)) (hl.els encI_ok (by simp)) (by omega) hs) ?_
    rintro _ rfl
    refine TL.p (EvP.not rfl) ?_
    refine TL.nil ?_
    refine TX.thenN rfl rfl ?_
    refine TC.cfalse rfl ?_
    refine TC.skip ?_
    refine TX.thenN rfl rfl ?_
    refine TC.seq ?_
    refine TC.region ?_
    refine TL.p (EvP.move rfl) ?_
    refine TL.p (EvP.lenS Try.runUnderlying50 rfl) ?_
    refine TL.p (EvP.move rfl) ?_
    refine TL.nil ?_
    refine TX.thenN rfl rfl ?_
    refine TC.block ?_
    refine TC.loop (ι := Nat × Nat) (fun (j, c2) => [(41, .slice am (grp L b).length cm), (42, .int .i64 (grp L b).length), (43, .int .i64 j), (13, .int .i64 x), (11, .int .i64 c2), (29, .slice al (grp L a).length cl), (30, .int .i64 (grp L a).length), (31, .int .i64 i), (7, .pointer (some ⟨g, 0, none⟩)), (9, .slice al (grp L a).length cl), (10, .slice am (grp L b).length cm)]) (fun (j, c2) => Cl :: Cm :: C :: R) (fun (j, c2) => j ≤ (grp L b).length ∧ c2 ≤ i * 4096 + j ∧ (0 < c2 → ∃ y, y ∈ grp L a ∧ y ∈ grp L b)) (fun (j, c2) => (grp L b).length - j) ((0, c)) (⟨Nat.zero_le _, by omega, hc2⟩) ⟨rfl, rfl, rfl, rfl, rfl, rfl, rfl, rfl, rfl, rfl, rfl, trivial⟩ (by repeat (first | exact Le.refl _ | exact Le.nil _ | refine Le.hit ?_ | refine Le.hit1 ?_ | refine Le.hit2 ?_ | refine Le.hit3 ?_ | refine Le.hit4 ?_ | refine Le.hit5 ?_ | refine Le.hit6 ?_ | refine Le.hit7 ?_ | refine Le.hit8 ?_ | refine Le.hit9 ?_ | refine Le.hit10 ?_ | refine Le.skip ?_)) ?_
    rintro ⟨j, c2⟩ ⟨hj, hc4, hc3⟩
    change TC _ _ [(41, .slice am (grp L b).length cm), (42, .int .i64 (grp L b).length), (43, .int .i64 j), (13, .int .i64 x), (11, .int .i64 c2), (29, .slice al (grp L a).length cl), (30, .int .i64 (grp L a).length), (31, .int .i64 i), (7, .pointer (some ⟨g, 0, none⟩)), (9, .slice al (grp L a).length cl), (10, .slice am (grp L b).length cm)] (Cl :: Cm :: C :: R) _
    refine TC.seq ?_
    refine TC.region ?_
    refine TL.dec (EvP.lt rfl rfl) (fun h44 => ?_) (fun h44 => ?_)
    · refine TL.nil ?_
      refine TX.thenN rfl rfl ?_
      refine TC.seq ?_
      refine TC.ctrue rfl ?_
      refine TC.skip ?_
      refine TX.thenN rfl rfl ?_
      refine TC.seq ?_
      refine TC.block ?_
      refine TC.seq ?_
      refine TC.region ?_
      have hjl : j < (grp L b).length := by omega
      obtain ⟨y, hy⟩ : ∃ y, (grp L b)[j]? = some y := ⟨_, List.getElem?_eq_getElem hjl⟩
      refine TL.elem (hm.el encI_ok (j := j) (x := y) hy (by simp)) Try.runUnderlying50 Try.sizeOf2 rfl rfl (fun bE2 oE2 lE2 _ _ hE2 hcE2 => ?_)
      refine TL.r (EvR.load rfl Try.isAgg2 hE2 hcE2.1) ?_
      refine TL.p (EvP.assign rfl) ?_
      refine TL.nil ?_
      refine TX.thenN rfl rfl ?_
      refine TC.seq ?_
      refine TC.region ?_
      refine TL.p (EvP.move rfl) ?_
      refine TL.p (EvP.move rfl) ?_
      refine TL.dec (EvP.eq rfl rfl) (fun h49 => ?_) (fun h49 => ?_)
      · refine TL.nil ?_
        refine TX.thenN rfl rfl ?_
        refine TC.ctrue rfl ?_
        refine TC.region ?_
        refine TL.p (EvP.move rfl) ?_
        refine TL.p (EvP.add rfl rfl (by omega)) ?_
        refine TL.p (EvP.assign rfl) ?_
        refine TL.nil ?_
        refine TX.blkN ?_
        refine TX.thenN rfl rfl ?_
        refine TC.region ?_
        refine TL.p (EvP.add rfl rfl (by omega)) ?_
        refine TL.p (EvP.move rfl) ?_
        refine TL.nil ?_
        refine TX.back ((j + 1, c2 + 1)) (⟨by omega, by omega, fun _ => ⟨x, List.mem_of_getElem? hx, h49 ▸ List.mem_of_getElem? hy⟩⟩) (by simp only; omega) ⟨rfl, rfl, rfl, rfl, rfl, rfl, rfl, rfl, rfl, rfl, rfl, trivial⟩ (by repeat (first | exact Le.refl _ | exact Le.nil _ | refine Le.hit ?_ | refine Le.hit1 ?_ | refine Le.hit2 ?_ | refine Le.hit3 ?_ | refine Le.hit4 ?_ | refine Le.hit5 ?_ | refine Le.hit6 ?_ | refine Le.hit7 ?_ | refine Le.hit8 ?_ | refine Le.hit9 ?_ | refine Le.hit10 ?_ | refine Le.skip ?_))
      · refine TL.nil ?_
        refine TX.thenN rfl rfl ?_
        refine TC.cfalse rfl ?_
        refine TC.skip ?_
        refine TX.blkN ?_
        refine TX.thenN rfl rfl ?_
        refine TC.region ?_
        refine TL.p (EvP.add rfl rfl (by omega)) ?_
        refine TL.p (EvP.move rfl) ?_
        refine TL.nil ?_
        refine TX.back ((j + 1, c2)) (⟨by omega, by omega, hc3⟩) (by simp only; omega) ⟨rfl, rfl, rfl, rfl, rfl, rfl, rfl, rfl, rfl, rfl, rfl, trivial⟩ (by repeat (first | exact Le.refl _ | exact Le.nil _ | refine Le.hit ?_ | refine Le.hit1 ?_ | refine Le.hit2 ?_ | refine Le.hit3 ?_ | refine Le.hit4 ?_ | refine Le.hit5 ?_ | refine Le.hit6 ?_ | refine Le.hit7 ?_ | refine Le.hit8 ?_ | refine Le.hit9 ?_ | refine Le.hit10 ?_ | refine Le.skip ?_))
    · refine TL.nil ?_
      refine TX.thenN rfl rfl ?_
      refine TC.seq ?_
      refine TC.cfalse rfl ?_
      refine TC.exit ?_
      refine TX.thenE ?_
      refine TX.thenE ?_
      refine TX.blkH ?_
      refine TX.blkN ?_
      refine TX.thenN rfl rfl ?_
      refine TC.region ?_
      refine TL.p (EvP.add rfl rfl (by omega)) ?_
      refine TL.p (EvP.move rfl) ?_
      refine TL.nil ?_
      refine TX.back ((i + 1, c2)) (⟨by omega, by omega, hc3⟩) (by simp only; omega) ⟨rfl, rfl, rfl, rfl, rfl, rfl, rfl, trivial⟩ (by repeat (first | exact Le.refl _ | exact Le.nil _ | refine Le.hit ?_ | refine Le.hit1 ?_ | refine Le.hit2 ?_ | refine Le.hit3 ?_ | refine Le.hit4 ?_ | refine Le.hit5 ?_ | refine Le.hit6 ?_ | refine Le.hit7 ?_ | refine Le.hit8 ?_ | refine Le.hit9 ?_ | refine Le.hit10 ?_ | refine Le.skip ?_))
  · refine TL.nil ?_
    refine TX.thenN rfl rfl ?_
    refine TC.seq ?_
    refine TC.cfalse rfl ?_
    refine TC.exit ?_
    refine TX.thenE ?_
    refine TX.thenE ?_
    refine TX.blkH ?_
    refine TX.thenN rfl rfl ?_
    refine TC.seq ?_
    refine TC.region ?_
    refine TL.p (EvP.move rfl) ?_
    refine TL.dec (EvP.eq rfl rfl) (fun h55 => ?_) (fun h55 => ?_)
    · refine TL.p (EvP.move rfl) ?_
      refine TL.gN rfl rfl rfl ?_
      refine TL.gN rfl rfl rfl ?_
      refine TL.gN rfl rfl rfl ?_
      refine TL.p (EvP.pickT rfl rfl) ?_
      refine TL.p (EvP.move rfl) ?_
      refine TL.gY rfl rfl rfl ?_
      refine TL.callA rfl rfl Try.call16 (fun w hs => awake_spec hs) ?_
      rintro _ rfl
      refine TL.p (EvP.pickT rfl rfl) ?_
      refine TL.p (EvP.assign rfl) ?_
      refine TL.nil ?_
      refine TX.thenN rfl rfl ?_
      refine TC.ret ?_
      refine TX.done rfl (Res.one rfl rfl) (fun w hs => Post0.mk hs ?_ (by repeat (first | exact Le.refl _ | exact Le.nil _ | refine Le.hit ?_ | refine Le.hit1 ?_ | refine Le.hit2 ?_ | refine Le.hit3 ?_ | refine Le.hit4 ?_ | refine Le.hit5 ?_ | refine Le.hit6 ?_ | refine Le.hit7 ?_ | refine Le.hit8 ?_ | refine Le.hit9 ?_ | refine Le.hit10 ?_ | refine Le.skip ?_)))
      rfl
    · refine TL.p (EvP.move rfl) ?_
      refine TL.gY rfl rfl rfl ?_
      refine TL.p (EvP.move rfl) ?_
      refine TL.gY rfl rfl rfl ?_
      refine TL.p (EvP.move rfl) ?_
      refine TL.gY rfl rfl rfl ?_
      have hsame : grp L a = grp L b := by obtain ⟨y, hy1, hy2⟩ := hc2 (by omega); rw [← grp_same hok hy1, grp_same hok hy2]
      refine TL.callA rfl rfl Try.call24 (fun w hs => pids_spec (xs := grp L a) (hl.els encI_ok (by simp)) (by have h := hm.els (w0 := w0) (H := Cl :: Cm :: C :: R) encI_ok (by simp); rw [← hsame] at h ⊢; exact h) (by omega) hs) ?_
      rintro _ rfl
      refine TL.p (EvP.pickF rfl rfl) ?_
      refine TL.p (EvP.move rfl) ?_
      refine TL.gY rfl rfl rfl ?_
      refine TL.callA rfl rfl Try.call16 (fun w hs => awake_spec hs) ?_
      rintro _ rfl
      refine TL.p (EvP.pickT rfl rfl) ?_
      refine TL.p (EvP.assign rfl) ?_
      refine TL.nil ?_
      refine TX.thenN rfl rfl ?_
      refine TC.ret ?_
      refine TX.done rfl (Res.one rfl rfl) (fun w hs => Post0.mk hs ?_ (by repeat (first | exact Le.refl _ | exact Le.nil _ | refine Le.hit ?_ | refine Le.hit1 ?_ | refine Le.hit2 ?_ | refine Le.hit3 ?_ | refine Le.hit4 ?_ | refine Le.hit5 ?_ | refine Le.hit6 ?_ | refine Le.hit7 ?_ | refine Le.hit8 ?_ | refine Le.hit9 ?_ | refine Le.hit10 ?_ | refine Le.skip ?_)))
      rfl
end Go.Proofs.Ytnmljhhbabjlcaa
