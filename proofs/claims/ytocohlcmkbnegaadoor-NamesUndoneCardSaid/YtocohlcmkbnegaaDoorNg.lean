/-
  The walks of NamesPairs, NamesUndone and NamesNil: each answers true.
-/
import Derived.Test.YtocohlcmkbnegaaDoorNf
set_option linter.unusedSimpArgs false
set_option linter.unusedVariables false
set_option maxRecDepth 100000
namespace Go.Proofs.YtocohlcmkbnegaaDoor
open Go Go.RowKit

section
variable {L : List En} {s : Str} {p : Int}
theorem add_same (h : ¬ (add L s p).1 = 0) : (add L s p).2 = L := by
  unfold add at h ⊢
  repeat' split
  all_goals first | rfl | (exfalso; simp_all)
theorem add_zero (h : (add L s p).1 = 0) : L.any (isN s) = false ∧ L.any (isP p) = false ∧ L.length < 64 ∧ (add L s p).2 = insE ⟨s, p⟩ L := by
  unfold add at h ⊢
  by_cases h1 : okN s = false
  · rw [if_pos h1] at h; simp at h
  rw [if_neg h1] at h ⊢
  by_cases h2 : okPid p = false
  · rw [if_pos h2] at h; simp at h
  rw [if_neg h2] at h ⊢
  by_cases h3 : (L.any (isN s) || L.any (isP p)) = true
  · rw [if_pos h3] at h; simp at h
  rw [if_neg h3] at h ⊢
  by_cases h4 : 64 ≤ L.length
  · rw [if_pos h4] at h; simp at h
  rw [if_neg h4]
  simp only [Bool.or_eq_true, not_or, Bool.not_eq_true] at h3
  exact ⟨h3.1, h3.2, by omega, rfl⟩
theorem find_at (h : NL L) {e : En} (he : e ∈ L) : fndN L e.n = (e.p, true) := by
  unfold fndN
  cases hf : L.find? (isN e.n) with
  | none => have := List.find?_eq_none.1 hf e he; simp [isN] at this
  | some x =>
    have hm := List.mem_of_find?_eq_some hf
    have hn : x.n = e.n := by have := List.find?_some hf; simpa [isN] using this
    have := h.injN hm he hn
    rw [this]
theorem name_at (h : NL L) {e : En} (he : e ∈ L) : fndP L e.p = (e.n, true) := by
  unfold fndP
  cases hf : L.find? (isP e.p) with
  | none => have := List.find?_eq_none.1 hf e he; simp [isP] at this
  | some x =>
    have hm := List.mem_of_find?_eq_some hf
    have hn : x.p = e.p := by have := List.find?_some hf; simpa [isP] using this
    have := h.injP hm he hn
    rw [this]
theorem undone (hok : NL L) (h : (add L s p).1 = 0) : (add L s p).2 = insE ⟨s, p⟩ L ∧ fndN (insE ⟨s, p⟩ L) s = (p, true) ∧ fndP (insE ⟨s, p⟩ L) p = (s, true) ∧ (insE ⟨s, p⟩ L).length = L.length + 1 ∧ drp (insE ⟨s, p⟩ L) s = (0, L) ∧ gonL (insE ⟨s, p⟩ L) p = L := by
  obtain ⟨h1, h2, h3, h4⟩ := add_zero h
  have hM := hok.ins h3 h1 h2
  have hperm := perm_split ⟨s, p⟩ L
  have hm : (⟨s, p⟩ : En) ∈ insE ⟨s, p⟩ L := hperm.mem_iff.2 (by simp)
  have e1 := find_at hM hm
  have e2 := name_at hM hm
  have e3 : outN (insE ⟨s, p⟩ L) s = L := by
    have hp : (outN (insE ⟨s, p⟩ L) s).Perm L := by
      have := hperm.filter fun e => !isN s e
      rw [List.filter_cons, if_neg (by simp [isN])] at this
      have h5 : L.filter (fun e => !isN s e) = L := List.filter_eq_self.2 fun x hx => by
        have := List.any_eq_false.1 h1 x hx
        simpa using this
      rw [h5] at this
      exact this
    refine hp.eq_of_pairwise (le := fun a b => a.n < b.n) (fun a b _ _ ha hb => absurd (List.lt_trans ha hb) (List.lt_irrefl _)) (hM.out s).srt hok.srt
  refine ⟨h4, e1, e2, by rw [hperm.length_eq]; simp, ?_, ?_⟩
  · unfold drp
    rw [if_pos (List.any_eq_true.2 ⟨_, hm, by simp [isN]⟩), e3]
  · unfold gonL
    unfold fndP at e2
    cases hf : (insE ⟨s, p⟩ L).find? (isP p) with
    | none => rw [hf] at e2; simp at e2
    | some x =>
      rw [hf] at e2
      simp only [Prod.mk.injEq, and_true] at e2
      show outN (insE ⟨s, p⟩ L) x.n = L
      rw [e2, e3]
theorem pair_n (h : NL L) {k i : Nat} {f e : En} (hf : L[k]? = some f) (he : L[i]? = some e) (hk : k < i) : f.n < e.n := by
  have h1 := (List.getElem?_eq_some_iff.1 hf).1
  have h2 := (List.getElem?_eq_some_iff.1 he).1
  have := List.pairwise_iff_getElem.1 h.srt k i h1 h2 hk
  rw [(List.getElem?_eq_some_iff.1 hf).2, (List.getElem?_eq_some_iff.1 he).2] at this
  exact this
theorem pair_p (h : NL L) {k i : Nat} {f e : En} (hf : L[k]? = some f) (he : L[i]? = some e) (hk : k < i) : ¬ f.p = e.p := by
  intro e2
  have h3 := pair_n h hf he hk
  have := h.injP (List.mem_of_getElem? hf) (List.mem_of_getElem? he) e2
  rw [this] at h3
  exact List.lt_irrefl _ h3
end

theorem undone_walk {w0 w : World} {R : List Chunk} (hT : Tabs w0) {v : Value} {ops : List NOp} (he : Els (fun w => w = w0) v 3 NOp.enc 31 ops) (hsz : ops.length < 4611686018427387904) (s : Str) (p : Int) (by_ : Bool) (hst : St w0 w R) : Calls Tryd.prog 5 #[v, sv s, .int .i64 p, .bool by_] w (Post0 w0 R fun u => u = .bool true) := by
  obtain ⟨⟨a0, cap, rfl⟩, he2⟩ := id he
  refine calls_of (args := [_, _, _, _]) Tryd.func5 rfl Tryd.ntmps5 hst ?_
  refine TC.seq ?_
  refine TC.region ?_
  refine TL.p (EvP.assign rfl) ?_
  refine TL.nil ?_
  refine TX.thenN rfl rfl ?_
  refine TC.seq ?_
  refine TC.region ?_
  refine TL.callB rfl rfl Tryd.call7 (fun w hs => new_spec hs) ?_
  rintro _ C ⟨g, rfl, hG⟩
  refine TL.p (EvP.assign rfl) ?_
  refine TL.nil ?_
  refine TX.thenN rfl rfl ?_
  refine TC.seq ?_
  refine TC.seq ?_
  refine TC.region ?_
  refine TL.p (EvP.move rfl) ?_
  refine TL.p (EvP.eqPtrNil Tryd.runUnderlying23 rfl rfl) ?_
  refine TL.nil ?_
  refine TX.thenN rfl rfl ?_
  refine TC.cfalse rfl ?_
  refine TC.skip ?_
  refine TX.thenN rfl rfl ?_
  refine TC.seq ?_
  refine TC.seq ?_
  refine TC.region ?_
  refine TL.p (EvP.assign rfl) ?_
  refine TL.nil ?_
  refine TX.thenN rfl rfl ?_
  refine TC.block ?_
  refine TC.loop (ι := Nat × List En × Chunk) (fun (i, L, C) => [(9, .pointer (some ⟨g, 0, none⟩)), (0, .slice a0 ops.length cap), (10, .int .i64 i), (1, sv s), (2, .int .i64 p), (3, .bool by_)]) (fun (i, L, C) => C :: R) (fun (i, L, C) => i ≤ ops.length ∧ IsN L g C) (fun (i, L, C) => ops.length - i) ((0, [], C)) (⟨by omega, hG⟩) ⟨rfl, rfl, rfl, rfl, rfl, rfl, trivial⟩ (by repeat (first | exact Le.refl _ | exact Le.nil _ | refine Le.hit ?_ | refine Le.hit1 ?_ | refine Le.hit2 ?_ | refine Le.hit3 ?_ | refine Le.hit4 ?_ | refine Le.hit5 ?_ | refine Le.hit6 ?_ | refine Le.hit7 ?_ | refine Le.hit8 ?_ | refine Le.hit9 ?_ | refine Le.hit10 ?_ | refine Le.skip ?_)) ?_
  rintro ⟨i, L, C⟩ ⟨hi, hG⟩
  change TC _ _ [(9, .pointer (some ⟨g, 0, none⟩)), (0, .slice a0 ops.length cap), (10, .int .i64 i), (1, sv s), (2, .int .i64 p), (3, .bool by_)] (C :: R) _
  have hok := hG.ok
  have hll := hok.len
  refine TC.seq ?_
  refine TC.seq ?_
  refine TC.region ?_
  refine TL.p (EvP.move rfl) ?_
  refine TL.p (EvP.move rfl) ?_
  refine TL.p (EvP.lenS Tryd.runUnderlying22 rfl) ?_
  refine TL.dec (EvP.lt rfl rfl) (fun h24 => ?_) (fun h24 => ?_)
  · refine TL.nil ?_
    refine TX.thenN rfl rfl ?_
    refine TC.ctrue rfl ?_
    refine TC.skip ?_
    refine TX.thenN rfl rfl ?_
    refine TC.seq ?_
    refine TC.block ?_
    refine TC.seq ?_
    refine TC.region ?_
    refine TL.p (EvP.move rfl) ?_
    refine TL.p (EvP.move rfl) ?_
    have hlt : i < ops.length := by omega
    obtain ⟨o, hx⟩ : ∃ o, ops[i]? = some o := ⟨_, List.getElem?_eq_getElem hlt⟩
    refine TL.elem (he.came.2 i o hx) Tryd.runUnderlying22 Tryd.sizeOf31 rfl rfl (fun bE0 oE0 lE0 _ _ hE0 hcE0 => ?_)
    refine TL.p (EvP.fa rfl Tryd.runUnderlying31 rfl Tryd.sizeOf3 rfl) ?_
    refine TL.r (EvR.load rfl Tryd.isAgg3 hE0 hcE0.1) ?_
    refine TL.dec (EvP.eq rfl rfl) (fun h32 => ?_) (fun h32 => ?_)
    · refine TL.nil ?_
      refine TX.thenN rfl rfl ?_
      refine TC.ctrue rfl ?_
      refine TC.drawn (listed := #[false, false, false, false, false, false, false, false, false, false, false, false]) 12 (SH w0 []) rfl rfl rfl rfl (fun w hs => SH.of hs (by repeat (first | exact Le.refl _ | exact Le.nil _ | refine Le.hit ?_ | refine Le.hit1 ?_ | refine Le.hit2 ?_ | refine Le.hit3 ?_ | refine Le.hit4 ?_ | refine Le.hit5 ?_ | refine Le.hit6 ?_ | refine Le.hit7 ?_ | refine Le.hit8 ?_ | refine Le.hit9 ?_ | refine Le.hit10 ?_ | refine Le.skip ?_))) ?_
      refine TR.take 0 rfl (by kernel_rfl) (by kernel_rfl) (by kernel_rfl) (EvP.r (by exact EvP.move rfl)) (l' := #[true, false, false, false, false, false, false, false, false, false, false, false]) rfl ?_
      refine TR.take 1 rfl (by kernel_rfl) (by kernel_rfl) (by kernel_rfl) (EvP.r (by exact EvP.move rfl)) (l' := #[true, true, false, false, false, false, false, false, false, false, false, false]) rfl ?_
      refine TR.take 2 rfl (by kernel_rfl) (by kernel_rfl) (by kernel_rfl) (EvP.r (by exact EvP.move rfl)) (l' := #[true, true, true, false, false, false, false, false, false, false, false, false]) rfl ?_
      obtain ⟨bQ, oQ, nQ, kQ, lQ, TQ, fzQ, qQ, hjQ, hbQ, hcQ⟩ := he2 i o hx
      have hbQ2 := hbQ w0 rfl
      cases qQ
      refine TR.take 3 rfl (by kernel_rfl) (by kernel_rfl) (by kernel_rfl) (EvP.r (by exact EvP.ix (j := (i : Int)) Tryd.runUnderlying22 Tryd.sizeOf31 rfl rfl ⟨by omega, by omega⟩)) (l' := #[true, true, true, true, false, false, false, false, false, false, false, false]) rfl ?_
      refine TR.take 4 rfl (by kernel_rfl) (by kernel_rfl) (by kernel_rfl) (EvP.r (by exact EvP.fa rfl Tryd.runUnderlying31 rfl Tryd.sizeOf9 rfl)) (l' := #[true, true, true, true, true, false, false, false, false, false, false, false]) rfl ?_
      refine TR.take 5 rfl (by kernel_rfl) (by kernel_rfl) (by kernel_rfl) (EvR.load rfl Tryd.isAgg9 (AtB.old' hbQ2) hcQ.2.1) (l' := #[true, true, true, true, true, true, false, false, false, false, false, false]) rfl ?_
      refine TR.take 6 rfl (by kernel_rfl) (by kernel_rfl) (by kernel_rfl) (EvP.r (by exact EvP.move rfl)) (l' := #[true, true, true, true, true, true, true, false, false, false, false, false]) rfl ?_
      refine TR.take 7 rfl (by kernel_rfl) (by kernel_rfl) (by kernel_rfl) (EvP.r (by exact EvP.move rfl)) (l' := #[true, true, true, true, true, true, true, true, false, false, false, false]) rfl ?_
      refine TR.take 8 rfl (by kernel_rfl) (by kernel_rfl) (by kernel_rfl) (EvP.r (by exact EvP.ix (j := (i : Int)) Tryd.runUnderlying22 Tryd.sizeOf31 rfl rfl ⟨by omega, by omega⟩)) (l' := #[true, true, true, true, true, true, true, true, true, false, false, false]) rfl ?_
      refine TR.take 9 rfl (by kernel_rfl) (by kernel_rfl) (by kernel_rfl) (EvP.r (by exact EvP.fa rfl Tryd.runUnderlying31 rfl Tryd.sizeOf2 rfl)) (l' := #[true, true, true, true, true, true, true, true, true, true, false, false]) rfl ?_
      refine TR.take 10 rfl (by kernel_rfl) (by kernel_rfl) (by kernel_rfl) (EvR.load rfl Tryd.isAgg2 (AtB.old' hbQ2) hcQ.2.2.1) (l' := #[true, true, true, true, true, true, true, true, true, true, true, false]) rfl ?_
      refine TR.one (i := 11) (by kernel_rfl) ?_
      refine TRi.call rfl rfl rfl Tryd.call13 (fun w hs => g_add hG hT o.n o.p hs) (l' := #[true, true, true, true, true, true, true, true, true, true, true, true]) rfl ?_
      rintro _ _ ⟨C2, rfl, rfl, hG2⟩
      refine ⟨(fun w hs => SH.of hs (by repeat (first | exact Le.refl _ | exact Le.nil _ | refine Le.hit ?_ | refine Le.hit1 ?_ | refine Le.hit2 ?_ | refine Le.hit3 ?_ | refine Le.hit4 ?_ | refine Le.hit5 ?_ | refine Le.hit6 ?_ | refine Le.hit7 ?_ | refine Le.hit8 ?_ | refine Le.hit9 ?_ | refine Le.hit10 ?_ | refine Le.skip ?_))), ?_⟩
      refine TR.done (by kernel_rfl) ?_
      refine TX.blkN ?_
      refine TX.thenN rfl rfl ?_
      refine TC.region ?_
      refine TL.p (EvP.move rfl) ?_
      refine TL.p (EvP.add rfl rfl (by omega)) ?_
      refine TL.p (EvP.assign rfl) ?_
      refine TL.nil ?_
      refine TX.back ((i + 1, _, C2)) (⟨by omega, hG2⟩) (by simp only; omega) ⟨rfl, rfl, rfl, rfl, rfl, rfl, trivial⟩ (by repeat (first | exact Le.refl _ | exact Le.nil _ | refine Le.hit ?_ | refine Le.hit1 ?_ | refine Le.hit2 ?_ | refine Le.hit3 ?_ | refine Le.hit4 ?_ | refine Le.hit5 ?_ | refine Le.hit6 ?_ | refine Le.hit7 ?_ | refine Le.hit8 ?_ | refine Le.hit9 ?_ | refine Le.hit10 ?_ | refine Le.skip ?_))
    · refine TL.nil ?_
      refine TX.thenN rfl rfl ?_
      refine TC.cfalse rfl ?_
      refine TC.skip ?_
      refine TX.blkN ?_
      refine TX.thenN rfl rfl ?_
      refine TC.region ?_
      refine TL.p (EvP.move rfl) ?_
      refine TL.p (EvP.add rfl rfl (by omega)) ?_
      refine TL.p (EvP.assign rfl) ?_
      refine TL.nil ?_
      refine TX.back ((i + 1, _, C)) (⟨by omega, hG⟩) (by simp only; omega) ⟨rfl, rfl, rfl, rfl, rfl, rfl, trivial⟩ (by repeat (first | exact Le.refl _ | exact Le.nil _ | refine Le.hit ?_ | refine Le.hit1 ?_ | refine Le.hit2 ?_ | refine Le.hit3 ?_ | refine Le.hit4 ?_ | refine Le.hit5 ?_ | refine Le.hit6 ?_ | refine Le.hit7 ?_ | refine Le.hit8 ?_ | refine Le.hit9 ?_ | refine Le.hit10 ?_ | refine Le.skip ?_))
  · refine TL.nil ?_
    refine TX.thenN rfl rfl ?_
    refine TC.cfalse rfl ?_
    refine TC.exit ?_
    refine TX.thenE ?_
    refine TX.thenE ?_
    refine TX.blkH ?_
    refine TX.thenN rfl rfl ?_
    refine TC.seq ?_
    refine TC.region ?_
    refine TL.p (EvP.move rfl) ?_
    refine TL.callB rfl rfl Tryd.call11 (fun w hs => g_all hG 0 hs) ?_
    rintro _ E hw
    rw [cut_0] at hw
    obtain ⟨aw, cw, rfl, _, _⟩ := hw.len
    refine TL.p (EvP.assign rfl) ?_
    refine TL.nil ?_
    refine TX.thenN rfl rfl ?_
    refine TC.seq ?_
    refine TC.region ?_
    refine TL.p (EvP.move rfl) ?_
    refine TL.p (EvP.move rfl) ?_
    refine TL.p (EvP.move rfl) ?_
    refine TL.le (Le.hit1 (Le.refl _)) ?_
    refine TL.callB rfl rfl Tryd.call13 (fun w hs => g_add hG hT s p hs) ?_
    rintro _ C2 ⟨rfl, hG2⟩
    refine TL.p (EvP.assign rfl) ?_
    refine TL.nil ?_
    refine TX.thenN rfl rfl ?_
    refine TC.seq ?_
    refine TC.seq ?_
    refine TC.region ?_
    refine TL.p (EvP.move rfl) ?_
    refine TL.dec (EvP.eq rfl rfl) (fun h52 => ?_) (fun h52 => ?_)
    · refine TL.nil ?_
      refine TX.thenN rfl rfl ?_
      refine TC.ctrue rfl ?_
      refine TC.seq ?_
      refine TC.region ?_
      obtain ⟨e2, e3, e4, e5, e6, e7⟩ := undone hok h52
      rw [e2] at hG2
      refine TL.p (EvP.move rfl) ?_
      refine TL.p (EvP.move rfl) ?_
      refine TL.callB rfl rfl Tryd.call16 (fun w hs => (by have h := g_find hG2 s hs; rw [e3] at h; exact h)) ?_
      rintro _ C9 ⟨rfl, hC9⟩
      replace hC9 := hC9.symm
      subst hC9
      refine TL.p (EvP.move rfl) ?_
      refine TL.p (EvP.extract rfl rfl) ?_
      refine TL.p (EvP.extract rfl rfl) ?_
      refine TL.p (EvP.assign rfl) ?_
      refine TL.p (EvP.assign rfl) ?_
      refine TL.nil ?_
      refine TX.thenN rfl rfl ?_
      refine TC.seq ?_
      refine TC.seq ?_
      refine TC.region ?_
      refine TL.p (EvP.move rfl) ?_
      refine TL.p (EvP.not rfl) ?_
      refine TL.p (EvP.move rfl) ?_
      refine TL.gY rfl rfl rfl ?_
      refine TL.p (EvP.move rfl) ?_
      refine TL.gY rfl rfl rfl ?_
      refine TL.p (EvP.move rfl) ?_
      refine TL.gY rfl rfl rfl ?_
      refine TL.p (EvP.isF (EvP.ne rfl rfl) (by simp)) ?_
      refine TL.p (EvP.pickF rfl rfl) ?_
      refine TL.p (EvP.move rfl) ?_
      refine TL.gY rfl rfl rfl ?_
      refine TL.p (EvP.move rfl) ?_
      refine TL.gY rfl rfl rfl ?_
      refine TL.callB rfl rfl Tryd.call9 (fun w hs => (by have h := g_len hG2 hs; rw [e5] at h; exact h)) ?_
      rintro _ C9 ⟨rfl, hC9⟩
      replace hC9 := hC9.symm
      subst hC9
      refine TL.gY rfl rfl rfl ?_
      refine TL.p (EvP.move rfl) ?_
      refine TL.gY rfl rfl rfl ?_
      refine TL.p (EvP.lenS Tryd.runUnderlying26 rfl) ?_
      refine TL.gY rfl rfl rfl ?_
      refine TL.p (EvP.add rfl rfl (by omega)) ?_
      refine TL.gY rfl rfl rfl ?_
      refine TL.p (EvP.isF (EvP.ne rfl rfl) (by omega)) ?_
      refine TL.p (EvP.pickF rfl rfl) ?_
      refine TL.nil ?_
      refine TX.thenN rfl rfl ?_
      refine TC.cfalse rfl ?_
      refine TC.skip ?_
      refine TX.thenN rfl rfl ?_
      refine TC.seq ?_
      refine TC.region ?_
      refine TL.p (EvP.move rfl) ?_
      refine TL.nil ?_
      refine TX.thenN rfl rfl ?_
      refine TC.cond rfl (fun h74 => ?_) (fun h74 => ?_)
      · refine TC.seq ?_
        refine TC.region ?_
        refine TL.p (EvP.move rfl) ?_
        refine TL.p (EvP.move rfl) ?_
        refine TL.callB rfl rfl Tryd.call14 (fun w hs => (by have h := g_drop hG2 s hs; rw [e6] at h; exact h)) ?_
        rintro _ C3 ⟨rfl, hG3⟩
        change IsN L g C3 at hG3
        refine TL.p (EvP.ne rfl rfl) ?_
        refine TL.nil ?_
        refine TX.thenN rfl rfl ?_
        refine TC.cfalse rfl ?_
        refine TC.skip ?_
        refine TX.thenN rfl rfl ?_
        refine TC.seq ?_
        refine TC.region ?_
        refine TL.p (EvP.move rfl) ?_
        refine TL.p (EvP.buildS (is := [0, 2]) (xs := [_, _]) rfl Tryd.runUnderlying48 Tryd.zeroValue48 rfl (.cons Tryd.sizeOf3 (.cons Tryd.sizeOf2 (.cons Tryd.sizeOf9 .nil))) rfl rfl rfl) ?_
        refine TL.callA rfl rfl Tryd.call18 (fun w hs => cell_atom s hs) ?_
        rintro _ rfl
        refine TL.dec (EvP.eq rfl rfl) (fun h95 => ?_) (fun h95 => ?_)
        · refine TL.p (EvP.move rfl) ?_
          refine TL.gY rfl rfl rfl ?_
          refine TL.p (EvP.move rfl) ?_
          refine TL.gY rfl rfl rfl ?_
          refine TL.dec (EvP.neS rfl rfl) (fun h98 => ?_) (fun h98 => ?_)
          · refine TL.p (EvP.pickT rfl rfl) ?_
            refine TL.p (EvP.assign rfl) ?_
            refine TL.nil ?_
            refine TX.thenN rfl rfl ?_
            refine TC.seq ?_
            refine TC.region ?_
            refine TL.p (EvP.move rfl) ?_
            refine TL.callB rfl rfl Tryd.call11 (fun w hs => g_all hG3 0 hs) ?_
            rintro _ E2 hu
            rw [cut_0] at hu
            refine TL.p (EvP.move rfl) ?_
            refine TL.callA rfl rfl Tryd.call10 (fun w hs => same_spec (hu.els encN_ok (by simp)) (hw.els encN_ok (by simp)) (by omega) hs) ?_
            rintro _ rfl
            refine TL.p (EvP.move rfl) ?_
            refine TL.gY rfl rfl rfl ?_
            refine TL.p (EvP.move rfl) ?_
            refine TL.gY rfl rfl rfl ?_
            refine TL.p (EvP.move rfl) ?_
            refine TL.gN rfl rfl rfl ?_
            refine TL.gN rfl rfl rfl ?_
            refine TL.gY rfl rfl rfl ?_
            refine TL.p (EvP.pickT rfl rfl) ?_
            refine TL.p (EvP.pickT rfl rfl) ?_
            refine TL.p (EvP.move rfl) ?_
            refine TL.gY rfl rfl rfl ?_
            refine TL.callA rfl rfl Tryd.call12 (fun w hs => known_spec hT hs) ?_
            rintro _ rfl
            refine TL.p (EvP.pickT rfl rfl) ?_
            refine TL.p (EvP.assign rfl) ?_
            refine TL.nil ?_
            refine TX.thenN rfl rfl ?_
            refine TC.ret ?_
            refine TX.done rfl (Res.one rfl rfl) (fun w hs => Post0.mk hs ?_ (by repeat (first | exact Le.refl _ | exact Le.nil _ | refine Le.hit ?_ | refine Le.hit1 ?_ | refine Le.hit2 ?_ | refine Le.hit3 ?_ | refine Le.hit4 ?_ | refine Le.hit5 ?_ | refine Le.hit6 ?_ | refine Le.hit7 ?_ | refine Le.hit8 ?_ | refine Le.hit9 ?_ | refine Le.hit10 ?_ | refine Le.skip ?_)))
            rfl
          · refine TL.p (EvP.pickT rfl rfl) ?_
            refine TL.p (EvP.assign rfl) ?_
            refine TL.nil ?_
            refine TX.thenN rfl rfl ?_
            refine TC.seq ?_
            refine TC.region ?_
            refine TL.p (EvP.move rfl) ?_
            refine TL.callB rfl rfl Tryd.call11 (fun w hs => g_all hG3 0 hs) ?_
            rintro _ E2 hu
            rw [cut_0] at hu
            refine TL.p (EvP.move rfl) ?_
            refine TL.callA rfl rfl Tryd.call10 (fun w hs => same_spec (hu.els encN_ok (by simp)) (hw.els encN_ok (by simp)) (by omega) hs) ?_
            rintro _ rfl
            refine TL.p (EvP.move rfl) ?_
            refine TL.gY rfl rfl rfl ?_
            refine TL.p (EvP.move rfl) ?_
            refine TL.gY rfl rfl rfl ?_
            refine TL.p (EvP.move rfl) ?_
            refine TL.gY rfl rfl rfl ?_
            refine TL.p (EvP.move rfl) ?_
            refine TL.gY rfl rfl rfl ?_
            refine TL.p (EvP.isT (EvP.eq rfl rfl) (by rw [add_20 (by first | exact .inl (oka0 h95) | exact .inr (Decidable.of_not_not h98))])) ?_
            refine TL.gY rfl rfl rfl ?_
            refine TL.p (EvP.pickF rfl rfl) ?_
            refine TL.p (EvP.pickT rfl rfl) ?_
            refine TL.p (EvP.move rfl) ?_
            refine TL.gY rfl rfl rfl ?_
            refine TL.callA rfl rfl Tryd.call12 (fun w hs => known_spec hT hs) ?_
            rintro _ rfl
            refine TL.p (EvP.pickT rfl rfl) ?_
            refine TL.p (EvP.assign rfl) ?_
            refine TL.nil ?_
            refine TX.thenN rfl rfl ?_
            refine TC.ret ?_
            refine TX.done rfl (Res.one rfl rfl) (fun w hs => Post0.mk hs ?_ (by repeat (first | exact Le.refl _ | exact Le.nil _ | refine Le.hit ?_ | refine Le.hit1 ?_ | refine Le.hit2 ?_ | refine Le.hit3 ?_ | refine Le.hit4 ?_ | refine Le.hit5 ?_ | refine Le.hit6 ?_ | refine Le.hit7 ?_ | refine Le.hit8 ?_ | refine Le.hit9 ?_ | refine Le.hit10 ?_ | refine Le.skip ?_)))
            rfl
        · refine TL.p (EvP.move rfl) ?_
          refine TL.gN rfl rfl rfl ?_
          refine TL.gN rfl rfl rfl ?_
          refine TL.p (EvP.pickF rfl rfl) ?_
          refine TL.p (EvP.assign rfl) ?_
          refine TL.nil ?_
          refine TX.thenN rfl rfl ?_
          refine TC.seq ?_
          refine TC.region ?_
          refine TL.p (EvP.move rfl) ?_
          refine TL.callB rfl rfl Tryd.call11 (fun w hs => g_all hG3 0 hs) ?_
          rintro _ E2 hu
          rw [cut_0] at hu
          refine TL.p (EvP.move rfl) ?_
          refine TL.callA rfl rfl Tryd.call10 (fun w hs => same_spec (hu.els encN_ok (by simp)) (hw.els encN_ok (by simp)) (by omega) hs) ?_
          rintro _ rfl
          refine TL.p (EvP.move rfl) ?_
          refine TL.gY rfl rfl rfl ?_
          refine TL.p (EvP.move rfl) ?_
          refine TL.gY rfl rfl rfl ?_
          refine TL.p (EvP.move rfl) ?_
          refine TL.gY rfl rfl rfl ?_
          refine TL.p (EvP.move rfl) ?_
          refine TL.gY rfl rfl rfl ?_
          refine TL.p (EvP.isT (EvP.eq rfl rfl) (by rw [add_20 (by first | exact .inl (oka0 h95) | exact .inr (Decidable.of_not_not h98))])) ?_
          refine TL.gY rfl rfl rfl ?_
          refine TL.p (EvP.pickF rfl rfl) ?_
          refine TL.p (EvP.pickT rfl rfl) ?_
          refine TL.p (EvP.move rfl) ?_
          refine TL.gY rfl rfl rfl ?_
          refine TL.callA rfl rfl Tryd.call12 (fun w hs => known_spec hT hs) ?_
          rintro _ rfl
          refine TL.p (EvP.pickT rfl rfl) ?_
          refine TL.p (EvP.assign rfl) ?_
          refine TL.nil ?_
          refine TX.thenN rfl rfl ?_
          refine TC.ret ?_
          refine TX.done rfl (Res.one rfl rfl) (fun w hs => Post0.mk hs ?_ (by repeat (first | exact Le.refl _ | exact Le.nil _ | refine Le.hit ?_ | refine Le.hit1 ?_ | refine Le.hit2 ?_ | refine Le.hit3 ?_ | refine Le.hit4 ?_ | refine Le.hit5 ?_ | refine Le.hit6 ?_ | refine Le.hit7 ?_ | refine Le.hit8 ?_ | refine Le.hit9 ?_ | refine Le.hit10 ?_ | refine Le.skip ?_)))
          rfl
      · refine TC.seq ?_
        refine TC.region ?_
        refine TL.p (EvP.move rfl) ?_
        refine TL.p (EvP.move rfl) ?_
        refine TL.callB rfl rfl Tryd.call15 (fun w hs => (by have h := g_gone hG2 p hs; rw [e4, e7] at h; exact h)) ?_
        rintro _ C3 ⟨rfl, hG3⟩
        refine TL.p (EvP.move rfl) ?_
        refine TL.p (EvP.extract rfl rfl) ?_
        refine TL.p (EvP.extract rfl rfl) ?_
        refine TL.p (EvP.assign rfl) ?_
        refine TL.p (EvP.assign rfl) ?_
        refine TL.nil ?_
        refine TX.thenN rfl rfl ?_
        refine TC.seq ?_
        refine TC.region ?_
        refine TL.p (EvP.move rfl) ?_
        refine TL.p (EvP.not rfl) ?_
        refine TL.p (EvP.move rfl) ?_
        refine TL.gY rfl rfl rfl ?_
        refine TL.p (EvP.move rfl) ?_
        refine TL.gY rfl rfl rfl ?_
        refine TL.p (EvP.move rfl) ?_
        refine TL.gY rfl rfl rfl ?_
        refine TL.p (EvP.isF (EvP.neS rfl rfl) (by simp)) ?_
        refine TL.p (EvP.pickF rfl rfl) ?_
        refine TL.nil ?_
        refine TX.thenN rfl rfl ?_
        refine TC.cfalse rfl ?_
        refine TC.skip ?_
        refine TX.thenN rfl rfl ?_
        refine TC.seq ?_
        refine TC.region ?_
        refine TL.p (EvP.move rfl) ?_
        refine TL.p (EvP.buildS (is := [0, 2]) (xs := [_, _]) rfl Tryd.runUnderlying48 Tryd.zeroValue48 rfl (.cons Tryd.sizeOf3 (.cons Tryd.sizeOf2 (.cons Tryd.sizeOf9 .nil))) rfl rfl rfl) ?_
        refine TL.callA rfl rfl Tryd.call18 (fun w hs => cell_atom s hs) ?_
        rintro _ rfl
        refine TL.dec (EvP.eq rfl rfl) (fun h95 => ?_) (fun h95 => ?_)
        · refine TL.p (EvP.move rfl) ?_
          refine TL.gY rfl rfl rfl ?_
          refine TL.p (EvP.move rfl) ?_
          refine TL.gY rfl rfl rfl ?_
          refine TL.dec (EvP.neS rfl rfl) (fun h98 => ?_) (fun h98 => ?_)
          · refine TL.p (EvP.pickT rfl rfl) ?_
            refine TL.p (EvP.assign rfl) ?_
            refine TL.nil ?_
            refine TX.thenN rfl rfl ?_
            refine TC.seq ?_
            refine TC.region ?_
            refine TL.p (EvP.move rfl) ?_
            refine TL.callB rfl rfl Tryd.call11 (fun w hs => g_all hG3 0 hs) ?_
            rintro _ E2 hu
            rw [cut_0] at hu
            refine TL.p (EvP.move rfl) ?_
            refine TL.callA rfl rfl Tryd.call10 (fun w hs => same_spec (hu.els encN_ok (by simp)) (hw.els encN_ok (by simp)) (by omega) hs) ?_
            rintro _ rfl
            refine TL.p (EvP.move rfl) ?_
            refine TL.gY rfl rfl rfl ?_
            refine TL.p (EvP.move rfl) ?_
            refine TL.gY rfl rfl rfl ?_
            refine TL.p (EvP.move rfl) ?_
            refine TL.gN rfl rfl rfl ?_
            refine TL.gN rfl rfl rfl ?_
            refine TL.gY rfl rfl rfl ?_
            refine TL.p (EvP.pickT rfl rfl) ?_
            refine TL.p (EvP.pickT rfl rfl) ?_
            refine TL.p (EvP.move rfl) ?_
            refine TL.gY rfl rfl rfl ?_
            refine TL.callA rfl rfl Tryd.call12 (fun w hs => known_spec hT hs) ?_
            rintro _ rfl
            refine TL.p (EvP.pickT rfl rfl) ?_
            refine TL.p (EvP.assign rfl) ?_
            refine TL.nil ?_
            refine TX.thenN rfl rfl ?_
            refine TC.ret ?_
            refine TX.done rfl (Res.one rfl rfl) (fun w hs => Post0.mk hs ?_ (by repeat (first | exact Le.refl _ | exact Le.nil _ | refine Le.hit ?_ | refine Le.hit1 ?_ | refine Le.hit2 ?_ | refine Le.hit3 ?_ | refine Le.hit4 ?_ | refine Le.hit5 ?_ | refine Le.hit6 ?_ | refine Le.hit7 ?_ | refine Le.hit8 ?_ | refine Le.hit9 ?_ | refine Le.hit10 ?_ | refine Le.skip ?_)))
            rfl
          · refine TL.p (EvP.pickT rfl rfl) ?_
            refine TL.p (EvP.assign rfl) ?_
            refine TL.nil ?_
            refine TX.thenN rfl rfl ?_
            refine TC.seq ?_
            refine TC.region ?_
            refine TL.p (EvP.move rfl) ?_
            refine TL.callB rfl rfl Tryd.call11 (fun w hs => g_all hG3 0 hs) ?_
            rintro _ E2 hu
            rw [cut_0] at hu
            refine TL.p (EvP.move rfl) ?_
            refine TL.callA rfl rfl Tryd.call10 (fun w hs => same_spec (hu.els encN_ok (by simp)) (hw.els encN_ok (by simp)) (by omega) hs) ?_
            rintro _ rfl
            refine TL.p (EvP.move rfl) ?_
            refine TL.gY rfl rfl rfl ?_
            refine TL.p (EvP.move rfl) ?_
            refine TL.gY rfl rfl rfl ?_
            refine TL.p (EvP.move rfl) ?_
            refine TL.gY rfl rfl rfl ?_
            refine TL.p (EvP.move rfl) ?_
            refine TL.gY rfl rfl rfl ?_
            refine TL.p (EvP.isT (EvP.eq rfl rfl) (by rw [add_20 (by first | exact .inl (oka0 h95) | exact .inr (Decidable.of_not_not h98))])) ?_
            refine TL.gY rfl rfl rfl ?_
            refine TL.p (EvP.pickF rfl rfl) ?_
            refine TL.p (EvP.pickT rfl rfl) ?_
            refine TL.p (EvP.move rfl) ?_
            refine TL.gY rfl rfl rfl ?_
            refine TL.callA rfl rfl Tryd.call12 (fun w hs => known_spec hT hs) ?_
            rintro _ rfl
            refine TL.p (EvP.pickT rfl rfl) ?_
            refine TL.p (EvP.assign rfl) ?_
            refine TL.nil ?_
            refine TX.thenN rfl rfl ?_
            refine TC.ret ?_
            refine TX.done rfl (Res.one rfl rfl) (fun w hs => Post0.mk hs ?_ (by repeat (first | exact Le.refl _ | exact Le.nil _ | refine Le.hit ?_ | refine Le.hit1 ?_ | refine Le.hit2 ?_ | refine Le.hit3 ?_ | refine Le.hit4 ?_ | refine Le.hit5 ?_ | refine Le.hit6 ?_ | refine Le.hit7 ?_ | refine Le.hit8 ?_ | refine Le.hit9 ?_ | refine Le.hit10 ?_ | refine Le.skip ?_)))
            rfl
        · refine TL.p (EvP.move rfl) ?_
          refine TL.gN rfl rfl rfl ?_
          refine TL.gN rfl rfl rfl ?_
          refine TL.p (EvP.pickF rfl rfl) ?_
          refine TL.p (EvP.assign rfl) ?_
          refine TL.nil ?_
          refine TX.thenN rfl rfl ?_
          refine TC.seq ?_
          refine TC.region ?_
          refine TL.p (EvP.move rfl) ?_
          refine TL.callB rfl rfl Tryd.call11 (fun w hs => g_all hG3 0 hs) ?_
          rintro _ E2 hu
          rw [cut_0] at hu
          refine TL.p (EvP.move rfl) ?_
          refine TL.callA rfl rfl Tryd.call10 (fun w hs => same_spec (hu.els encN_ok (by simp)) (hw.els encN_ok (by simp)) (by omega) hs) ?_
          rintro _ rfl
          refine TL.p (EvP.move rfl) ?_
          refine TL.gY rfl rfl rfl ?_
          refine TL.p (EvP.move rfl) ?_
          refine TL.gY rfl rfl rfl ?_
          refine TL.p (EvP.move rfl) ?_
          refine TL.gY rfl rfl rfl ?_
          refine TL.p (EvP.move rfl) ?_
          refine TL.gY rfl rfl rfl ?_
          refine TL.p (EvP.isT (EvP.eq rfl rfl) (by rw [add_20 (by first | exact .inl (oka0 h95) | exact .inr (Decidable.of_not_not h98))])) ?_
          refine TL.gY rfl rfl rfl ?_
          refine TL.p (EvP.pickF rfl rfl) ?_
          refine TL.p (EvP.pickT rfl rfl) ?_
          refine TL.p (EvP.move rfl) ?_
          refine TL.gY rfl rfl rfl ?_
          refine TL.callA rfl rfl Tryd.call12 (fun w hs => known_spec hT hs) ?_
          rintro _ rfl
          refine TL.p (EvP.pickT rfl rfl) ?_
          refine TL.p (EvP.assign rfl) ?_
          refine TL.nil ?_
          refine TX.thenN rfl rfl ?_
          refine TC.ret ?_
          refine TX.done rfl (Res.one rfl rfl) (fun w hs => Post0.mk hs ?_ (by repeat (first | exact Le.refl _ | exact Le.nil _ | refine Le.hit ?_ | refine Le.hit1 ?_ | refine Le.hit2 ?_ | refine Le.hit3 ?_ | refine Le.hit4 ?_ | refine Le.hit5 ?_ | refine Le.hit6 ?_ | refine Le.hit7 ?_ | refine Le.hit8 ?_ | refine Le.hit9 ?_ | refine Le.hit10 ?_ | refine Le.skip ?_)))
          rfl
    · refine TL.nil ?_
      refine TX.thenN rfl rfl ?_
      refine TC.cfalse rfl ?_
      refine TC.skip ?_
      refine TX.thenN rfl rfl ?_
      refine TC.seq ?_
      refine TC.region ?_
      have e2 := add_same h52
      rw [e2] at hG2
      refine TL.p (EvP.move rfl) ?_
      refine TL.p (EvP.buildS (is := [0, 2]) (xs := [_, _]) rfl Tryd.runUnderlying48 Tryd.zeroValue48 rfl (.cons Tryd.sizeOf3 (.cons Tryd.sizeOf2 (.cons Tryd.sizeOf9 .nil))) rfl rfl rfl) ?_
      refine TL.callA rfl rfl Tryd.call18 (fun w hs => cell_atom s hs) ?_
      rintro _ rfl
      refine TL.dec (EvP.eq rfl rfl) (fun h95 => ?_) (fun h95 => ?_)
      · refine TL.p (EvP.move rfl) ?_
        refine TL.gY rfl rfl rfl ?_
        refine TL.p (EvP.move rfl) ?_
        refine TL.gY rfl rfl rfl ?_
        refine TL.dec (EvP.neS rfl rfl) (fun h98 => ?_) (fun h98 => ?_)
        · refine TL.p (EvP.pickT rfl rfl) ?_
          refine TL.p (EvP.assign rfl) ?_
          refine TL.nil ?_
          refine TX.thenN rfl rfl ?_
          refine TC.seq ?_
          refine TC.region ?_
          refine TL.p (EvP.move rfl) ?_
          refine TL.callB rfl rfl Tryd.call11 (fun w hs => g_all hG2 0 hs) ?_
          rintro _ E2 hu
          rw [cut_0] at hu
          refine TL.p (EvP.move rfl) ?_
          refine TL.callA rfl rfl Tryd.call10 (fun w hs => same_spec (hu.els encN_ok (by simp)) (hw.els encN_ok (by simp)) (by omega) hs) ?_
          rintro _ rfl
          refine TL.p (EvP.move rfl) ?_
          refine TL.gY rfl rfl rfl ?_
          refine TL.p (EvP.move rfl) ?_
          refine TL.gY rfl rfl rfl ?_
          refine TL.p (EvP.move rfl) ?_
          refine TL.gN rfl rfl rfl ?_
          refine TL.gN rfl rfl rfl ?_
          refine TL.gY rfl rfl rfl ?_
          refine TL.p (EvP.pickT rfl rfl) ?_
          refine TL.p (EvP.pickT rfl rfl) ?_
          refine TL.p (EvP.move rfl) ?_
          refine TL.gY rfl rfl rfl ?_
          refine TL.callA rfl rfl Tryd.call12 (fun w hs => known_spec hT hs) ?_
          rintro _ rfl
          refine TL.p (EvP.pickT rfl rfl) ?_
          refine TL.p (EvP.assign rfl) ?_
          refine TL.nil ?_
          refine TX.thenN rfl rfl ?_
          refine TC.ret ?_
          refine TX.done rfl (Res.one rfl rfl) (fun w hs => Post0.mk hs ?_ (by repeat (first | exact Le.refl _ | exact Le.nil _ | refine Le.hit ?_ | refine Le.hit1 ?_ | refine Le.hit2 ?_ | refine Le.hit3 ?_ | refine Le.hit4 ?_ | refine Le.hit5 ?_ | refine Le.hit6 ?_ | refine Le.hit7 ?_ | refine Le.hit8 ?_ | refine Le.hit9 ?_ | refine Le.hit10 ?_ | refine Le.skip ?_)))
          rfl
        · refine TL.p (EvP.pickT rfl rfl) ?_
          refine TL.p (EvP.assign rfl) ?_
          refine TL.nil ?_
          refine TX.thenN rfl rfl ?_
          refine TC.seq ?_
          refine TC.region ?_
          refine TL.p (EvP.move rfl) ?_
          refine TL.callB rfl rfl Tryd.call11 (fun w hs => g_all hG2 0 hs) ?_
          rintro _ E2 hu
          rw [cut_0] at hu
          refine TL.p (EvP.move rfl) ?_
          refine TL.callA rfl rfl Tryd.call10 (fun w hs => same_spec (hu.els encN_ok (by simp)) (hw.els encN_ok (by simp)) (by omega) hs) ?_
          rintro _ rfl
          refine TL.p (EvP.move rfl) ?_
          refine TL.gY rfl rfl rfl ?_
          refine TL.p (EvP.move rfl) ?_
          refine TL.gY rfl rfl rfl ?_
          refine TL.p (EvP.move rfl) ?_
          refine TL.gY rfl rfl rfl ?_
          refine TL.p (EvP.move rfl) ?_
          refine TL.gY rfl rfl rfl ?_
          refine TL.p (EvP.isT (EvP.eq rfl rfl) (by rw [add_20 (by first | exact .inl (oka0 h95) | exact .inr (Decidable.of_not_not h98))])) ?_
          refine TL.gY rfl rfl rfl ?_
          refine TL.p (EvP.pickF rfl rfl) ?_
          refine TL.p (EvP.pickT rfl rfl) ?_
          refine TL.p (EvP.move rfl) ?_
          refine TL.gY rfl rfl rfl ?_
          refine TL.callA rfl rfl Tryd.call12 (fun w hs => known_spec hT hs) ?_
          rintro _ rfl
          refine TL.p (EvP.pickT rfl rfl) ?_
          refine TL.p (EvP.assign rfl) ?_
          refine TL.nil ?_
          refine TX.thenN rfl rfl ?_
          refine TC.ret ?_
          refine TX.done rfl (Res.one rfl rfl) (fun w hs => Post0.mk hs ?_ (by repeat (first | exact Le.refl _ | exact Le.nil _ | refine Le.hit ?_ | refine Le.hit1 ?_ | refine Le.hit2 ?_ | refine Le.hit3 ?_ | refine Le.hit4 ?_ | refine Le.hit5 ?_ | refine Le.hit6 ?_ | refine Le.hit7 ?_ | refine Le.hit8 ?_ | refine Le.hit9 ?_ | refine Le.hit10 ?_ | refine Le.skip ?_)))
          rfl
      · refine TL.p (EvP.move rfl) ?_
        refine TL.gN rfl rfl rfl ?_
        refine TL.gN rfl rfl rfl ?_
        refine TL.p (EvP.pickF rfl rfl) ?_
        refine TL.p (EvP.assign rfl) ?_
        refine TL.nil ?_
        refine TX.thenN rfl rfl ?_
        refine TC.seq ?_
        refine TC.region ?_
        refine TL.p (EvP.move rfl) ?_
        refine TL.callB rfl rfl Tryd.call11 (fun w hs => g_all hG2 0 hs) ?_
        rintro _ E2 hu
        rw [cut_0] at hu
        refine TL.p (EvP.move rfl) ?_
        refine TL.callA rfl rfl Tryd.call10 (fun w hs => same_spec (hu.els encN_ok (by simp)) (hw.els encN_ok (by simp)) (by omega) hs) ?_
        rintro _ rfl
        refine TL.p (EvP.move rfl) ?_
        refine TL.gY rfl rfl rfl ?_
        refine TL.p (EvP.move rfl) ?_
        refine TL.gY rfl rfl rfl ?_
        refine TL.p (EvP.move rfl) ?_
        refine TL.gY rfl rfl rfl ?_
        refine TL.p (EvP.move rfl) ?_
        refine TL.gY rfl rfl rfl ?_
        refine TL.p (EvP.isT (EvP.eq rfl rfl) (by rw [add_20 (by first | exact .inl (oka0 h95) | exact .inr (Decidable.of_not_not h98))])) ?_
        refine TL.gY rfl rfl rfl ?_
        refine TL.p (EvP.pickF rfl rfl) ?_
        refine TL.p (EvP.pickT rfl rfl) ?_
        refine TL.p (EvP.move rfl) ?_
        refine TL.gY rfl rfl rfl ?_
        refine TL.callA rfl rfl Tryd.call12 (fun w hs => known_spec hT hs) ?_
        rintro _ rfl
        refine TL.p (EvP.pickT rfl rfl) ?_
        refine TL.p (EvP.assign rfl) ?_
        refine TL.nil ?_
        refine TX.thenN rfl rfl ?_
        refine TC.ret ?_
        refine TX.done rfl (Res.one rfl rfl) (fun w hs => Post0.mk hs ?_ (by repeat (first | exact Le.refl _ | exact Le.nil _ | refine Le.hit ?_ | refine Le.hit1 ?_ | refine Le.hit2 ?_ | refine Le.hit3 ?_ | refine Le.hit4 ?_ | refine Le.hit5 ?_ | refine Le.hit6 ?_ | refine Le.hit7 ?_ | refine Le.hit8 ?_ | refine Le.hit9 ?_ | refine Le.hit10 ?_ | refine Le.skip ?_)))
        rfl

theorem pairs_walk {w0 w : World} {R : List Chunk} (hT : Tabs w0) {v : Value} {ops : List NOp} (he : Els (fun w => w = w0) v 3 NOp.enc 31 ops) (hsz : ops.length < 4611686018427387904) (hst : St w0 w R) : Calls Tryd.prog 4 #[v] w (Post0 w0 R fun u => u = .bool true) := by
  obtain ⟨⟨a0, cap, rfl⟩, he2⟩ := id he
  refine calls_of (args := [_]) Tryd.func4 rfl Tryd.ntmps4 hst ?_
  refine TC.seq ?_
  refine TC.region ?_
  refine TL.p (EvP.assign rfl) ?_
  refine TL.nil ?_
  refine TX.thenN rfl rfl ?_
  refine TC.seq ?_
  refine TC.region ?_
  refine TL.callB rfl rfl Tryd.call7 (fun w hs => new_spec hs) ?_
  rintro _ C ⟨g, rfl, hG⟩
  refine TL.p (EvP.assign rfl) ?_
  refine TL.nil ?_
  refine TX.thenN rfl rfl ?_
  refine TC.seq ?_
  refine TC.seq ?_
  refine TC.region ?_
  refine TL.p (EvP.move rfl) ?_
  refine TL.p (EvP.eqPtrNil Tryd.runUnderlying23 rfl rfl) ?_
  refine TL.nil ?_
  refine TX.thenN rfl rfl ?_
  refine TC.cfalse rfl ?_
  refine TC.skip ?_
  refine TX.thenN rfl rfl ?_
  refine TC.seq ?_
  refine TC.seq ?_
  refine TC.region ?_
  refine TL.p (EvP.assign rfl) ?_
  refine TL.nil ?_
  refine TX.thenN rfl rfl ?_
  refine TC.block ?_
  refine TC.loop (ι := Nat × List En × Chunk) (fun (i, L, C) => [(3, .pointer (some ⟨g, 0, none⟩)), (0, .slice a0 ops.length cap), (4, .int .i64 i)]) (fun (i, L, C) => C :: R) (fun (i, L, C) => i ≤ ops.length ∧ IsN L g C) (fun (i, L, C) => ops.length - i) ((0, [], C)) (⟨by omega, hG⟩) ⟨rfl, rfl, rfl, trivial⟩ (by repeat (first | exact Le.refl _ | exact Le.nil _ | refine Le.hit ?_ | refine Le.hit1 ?_ | refine Le.hit2 ?_ | refine Le.hit3 ?_ | refine Le.hit4 ?_ | refine Le.hit5 ?_ | refine Le.hit6 ?_ | refine Le.hit7 ?_ | refine Le.hit8 ?_ | refine Le.hit9 ?_ | refine Le.hit10 ?_ | refine Le.skip ?_)) ?_
  rintro ⟨i, L, C⟩ ⟨hi, hG⟩
  change TC _ _ [(3, .pointer (some ⟨g, 0, none⟩)), (0, .slice a0 ops.length cap), (4, .int .i64 i)] (C :: R) _
  have hok := hG.ok
  have hll := hok.len
  refine TC.seq ?_
  refine TC.seq ?_
  refine TC.region ?_
  refine TL.p (EvP.move rfl) ?_
  refine TL.p (EvP.move rfl) ?_
  refine TL.p (EvP.lenS Tryd.runUnderlying22 rfl) ?_
  refine TL.dec (EvP.lt rfl rfl) (fun h18 => ?_) (fun h18 => ?_)
  · refine TL.nil ?_
    refine TX.thenN rfl rfl ?_
    refine TC.ctrue rfl ?_
    refine TC.skip ?_
    refine TX.thenN rfl rfl ?_
    refine TC.seq ?_
    refine TC.block ?_
    refine TC.seq ?_
    refine TC.region ?_
    refine TL.p (EvP.move rfl) ?_
    refine TL.p (EvP.move rfl) ?_
    have hlt : i < ops.length := by omega
    obtain ⟨o, hx⟩ : ∃ o, ops[i]? = some o := ⟨_, List.getElem?_eq_getElem hlt⟩
    refine TL.elem (he.came.2 i o hx) Tryd.runUnderlying22 Tryd.sizeOf31 rfl rfl (fun bE0 oE0 lE0 _ _ hE0 hcE0 => ?_)
    refine TL.p (EvP.fa rfl Tryd.runUnderlying31 rfl Tryd.sizeOf3 rfl) ?_
    refine TL.r (EvR.load rfl Tryd.isAgg3 hE0 hcE0.1) ?_
    refine TL.nil ?_
    refine TX.thenN rfl rfl ?_
    refine TC.block ?_
    refine TC.seq ?_
    refine TC.region ?_
    refine TL.dec (EvP.eq rfl rfl) (fun h27 => ?_) (fun h27 => ?_)
    · refine TL.p (EvP.assign rfl) ?_
      refine TL.nil ?_
      refine TX.thenN rfl rfl ?_
      refine TC.ctrue rfl ?_
      refine TC.drawn (listed := #[false, false, false, false, false, false, false, false, false, false, false, false]) 12 (SH w0 []) rfl rfl rfl rfl (fun w hs => SH.of hs (by repeat (first | exact Le.refl _ | exact Le.nil _ | refine Le.hit ?_ | refine Le.hit1 ?_ | refine Le.hit2 ?_ | refine Le.hit3 ?_ | refine Le.hit4 ?_ | refine Le.hit5 ?_ | refine Le.hit6 ?_ | refine Le.hit7 ?_ | refine Le.hit8 ?_ | refine Le.hit9 ?_ | refine Le.hit10 ?_ | refine Le.skip ?_))) ?_
      refine TR.take 0 rfl (by kernel_rfl) (by kernel_rfl) (by kernel_rfl) (EvP.r (by exact EvP.move rfl)) (l' := #[true, false, false, false, false, false, false, false, false, false, false, false]) rfl ?_
      refine TR.take 1 rfl (by kernel_rfl) (by kernel_rfl) (by kernel_rfl) (EvP.r (by exact EvP.move rfl)) (l' := #[true, true, false, false, false, false, false, false, false, false, false, false]) rfl ?_
      refine TR.take 2 rfl (by kernel_rfl) (by kernel_rfl) (by kernel_rfl) (EvP.r (by exact EvP.move rfl)) (l' := #[true, true, true, false, false, false, false, false, false, false, false, false]) rfl ?_
      obtain ⟨bQ, oQ, nQ, kQ, lQ, TQ, fzQ, qQ, hjQ, hbQ, hcQ⟩ := he2 i o hx
      have hbQ2 := hbQ w0 rfl
      cases qQ
      refine TR.take 3 rfl (by kernel_rfl) (by kernel_rfl) (by kernel_rfl) (EvP.r (by exact EvP.ix (j := (i : Int)) Tryd.runUnderlying22 Tryd.sizeOf31 rfl rfl ⟨by omega, by omega⟩)) (l' := #[true, true, true, true, false, false, false, false, false, false, false, false]) rfl ?_
      refine TR.take 4 rfl (by kernel_rfl) (by kernel_rfl) (by kernel_rfl) (EvP.r (by exact EvP.fa rfl Tryd.runUnderlying31 rfl Tryd.sizeOf9 rfl)) (l' := #[true, true, true, true, true, false, false, false, false, false, false, false]) rfl ?_
      refine TR.take 5 rfl (by kernel_rfl) (by kernel_rfl) (by kernel_rfl) (EvR.load rfl Tryd.isAgg9 (AtB.old' hbQ2) hcQ.2.1) (l' := #[true, true, true, true, true, true, false, false, false, false, false, false]) rfl ?_
      refine TR.take 6 rfl (by kernel_rfl) (by kernel_rfl) (by kernel_rfl) (EvP.r (by exact EvP.move rfl)) (l' := #[true, true, true, true, true, true, true, false, false, false, false, false]) rfl ?_
      refine TR.take 7 rfl (by kernel_rfl) (by kernel_rfl) (by kernel_rfl) (EvP.r (by exact EvP.move rfl)) (l' := #[true, true, true, true, true, true, true, true, false, false, false, false]) rfl ?_
      refine TR.take 8 rfl (by kernel_rfl) (by kernel_rfl) (by kernel_rfl) (EvP.r (by exact EvP.ix (j := (i : Int)) Tryd.runUnderlying22 Tryd.sizeOf31 rfl rfl ⟨by omega, by omega⟩)) (l' := #[true, true, true, true, true, true, true, true, true, false, false, false]) rfl ?_
      refine TR.take 9 rfl (by kernel_rfl) (by kernel_rfl) (by kernel_rfl) (EvP.r (by exact EvP.fa rfl Tryd.runUnderlying31 rfl Tryd.sizeOf2 rfl)) (l' := #[true, true, true, true, true, true, true, true, true, true, false, false]) rfl ?_
      refine TR.take 10 rfl (by kernel_rfl) (by kernel_rfl) (by kernel_rfl) (EvR.load rfl Tryd.isAgg2 (AtB.old' hbQ2) hcQ.2.2.1) (l' := #[true, true, true, true, true, true, true, true, true, true, true, false]) rfl ?_
      refine TR.one (i := 11) (by kernel_rfl) ?_
      refine TRi.call rfl rfl rfl Tryd.call13 (fun w hs => g_add hG hT o.n o.p hs) (l' := #[true, true, true, true, true, true, true, true, true, true, true, true]) rfl ?_
      rintro _ _ ⟨C2, rfl, rfl, hG2⟩
      refine ⟨(fun w hs => SH.of hs (by repeat (first | exact Le.refl _ | exact Le.nil _ | refine Le.hit ?_ | refine Le.hit1 ?_ | refine Le.hit2 ?_ | refine Le.hit3 ?_ | refine Le.hit4 ?_ | refine Le.hit5 ?_ | refine Le.hit6 ?_ | refine Le.hit7 ?_ | refine Le.hit8 ?_ | refine Le.hit9 ?_ | refine Le.hit10 ?_ | refine Le.skip ?_))), ?_⟩
      refine TR.done (by kernel_rfl) ?_
      refine TX.blkN ?_
      refine TX.blkN ?_
      refine TX.thenN rfl rfl ?_
      refine TC.region ?_
      refine TL.p (EvP.move rfl) ?_
      refine TL.p (EvP.add rfl rfl (by omega)) ?_
      refine TL.p (EvP.assign rfl) ?_
      refine TL.nil ?_
      refine TX.back ((i + 1, _, C2)) (⟨by omega, hG2⟩) (by simp only; omega) ⟨rfl, rfl, rfl, trivial⟩ (by repeat (first | exact Le.refl _ | exact Le.nil _ | refine Le.hit ?_ | refine Le.hit1 ?_ | refine Le.hit2 ?_ | refine Le.hit3 ?_ | refine Le.hit4 ?_ | refine Le.hit5 ?_ | refine Le.hit6 ?_ | refine Le.hit7 ?_ | refine Le.hit8 ?_ | refine Le.hit9 ?_ | refine Le.hit10 ?_ | refine Le.skip ?_))
    · refine TL.p (EvP.assign rfl) ?_
      refine TL.nil ?_
      refine TX.thenN rfl rfl ?_
      refine TC.cfalse rfl ?_
      refine TC.seq ?_
      refine TC.region ?_
      refine TL.dec (EvP.eq rfl rfl) (fun h41 => ?_) (fun h41 => ?_)
      · refine TL.p (EvP.assign rfl) ?_
        refine TL.nil ?_
        refine TX.thenN rfl rfl ?_
        refine TC.ctrue rfl ?_
        refine TC.region ?_
        refine TL.p (EvP.move rfl) ?_
        refine TL.p (EvP.move rfl) ?_
        refine TL.p (EvP.move rfl) ?_
        refine TL.elem (he.came.2 i o hx) Tryd.runUnderlying22 Tryd.sizeOf31 rfl rfl (fun bE1 oE1 lE1 _ _ hE1 hcE1 => ?_)
        refine TL.p (EvP.fa rfl Tryd.runUnderlying31 rfl Tryd.sizeOf9 rfl) ?_
        refine TL.r (EvR.load rfl Tryd.isAgg9 hE1 hcE1.2.1) ?_
        refine TL.callB rfl rfl Tryd.call14 (fun w hs => g_drop hG o.n hs) ?_
        rintro _ C2 ⟨rfl, hG2⟩
        refine TL.nil ?_
        refine TX.blkN ?_
        refine TX.blkN ?_
        refine TX.thenN rfl rfl ?_
        refine TC.region ?_
        refine TL.p (EvP.move rfl) ?_
        refine TL.p (EvP.add rfl rfl (by omega)) ?_
        refine TL.p (EvP.assign rfl) ?_
        refine TL.nil ?_
        refine TX.back ((i + 1, _, C2)) (⟨by omega, hG2⟩) (by simp only; omega) ⟨rfl, rfl, rfl, trivial⟩ (by repeat (first | exact Le.refl _ | exact Le.nil _ | refine Le.hit ?_ | refine Le.hit1 ?_ | refine Le.hit2 ?_ | refine Le.hit3 ?_ | refine Le.hit4 ?_ | refine Le.hit5 ?_ | refine Le.hit6 ?_ | refine Le.hit7 ?_ | refine Le.hit8 ?_ | refine Le.hit9 ?_ | refine Le.hit10 ?_ | refine Le.skip ?_))
      · refine TL.p (EvP.assign rfl) ?_
        refine TL.nil ?_
        refine TX.thenN rfl rfl ?_
        refine TC.cfalse rfl ?_
        refine TC.seq ?_
        refine TC.region ?_
        refine TL.dec (EvP.eq rfl rfl) (fun h50 => ?_) (fun h50 => ?_)
        · refine TL.p (EvP.assign rfl) ?_
          refine TL.nil ?_
          refine TX.thenN rfl rfl ?_
          refine TC.ctrue rfl ?_
          refine TC.region ?_
          refine TL.p (EvP.move rfl) ?_
          refine TL.p (EvP.move rfl) ?_
          refine TL.p (EvP.move rfl) ?_
          refine TL.elem (he.came.2 i o hx) Tryd.runUnderlying22 Tryd.sizeOf31 rfl rfl (fun bE2 oE2 lE2 _ _ hE2 hcE2 => ?_)
          refine TL.p (EvP.fa rfl Tryd.runUnderlying31 rfl Tryd.sizeOf2 rfl) ?_
          refine TL.r (EvR.load rfl Tryd.isAgg2 hE2 hcE2.2.2.1) ?_
          refine TL.callB rfl rfl Tryd.call15 (fun w hs => g_gone hG o.p hs) ?_
          rintro _ C2 ⟨rfl, hG2⟩
          refine TL.nil ?_
          refine TX.blkN ?_
          refine TX.blkN ?_
          refine TX.thenN rfl rfl ?_
          refine TC.region ?_
          refine TL.p (EvP.move rfl) ?_
          refine TL.p (EvP.add rfl rfl (by omega)) ?_
          refine TL.p (EvP.assign rfl) ?_
          refine TL.nil ?_
          refine TX.back ((i + 1, _, C2)) (⟨by omega, hG2⟩) (by simp only; omega) ⟨rfl, rfl, rfl, trivial⟩ (by repeat (first | exact Le.refl _ | exact Le.nil _ | refine Le.hit ?_ | refine Le.hit1 ?_ | refine Le.hit2 ?_ | refine Le.hit3 ?_ | refine Le.hit4 ?_ | refine Le.hit5 ?_ | refine Le.hit6 ?_ | refine Le.hit7 ?_ | refine Le.hit8 ?_ | refine Le.hit9 ?_ | refine Le.hit10 ?_ | refine Le.skip ?_))
        · refine TL.p (EvP.assign rfl) ?_
          refine TL.nil ?_
          refine TX.thenN rfl rfl ?_
          refine TC.cfalse rfl ?_
          refine TC.skip ?_
          refine TX.blkN ?_
          refine TX.blkN ?_
          refine TX.thenN rfl rfl ?_
          refine TC.region ?_
          refine TL.p (EvP.move rfl) ?_
          refine TL.p (EvP.add rfl rfl (by omega)) ?_
          refine TL.p (EvP.assign rfl) ?_
          refine TL.nil ?_
          refine TX.back ((i + 1, _, C)) (⟨by omega, hG⟩) (by simp only; omega) ⟨rfl, rfl, rfl, trivial⟩ (by repeat (first | exact Le.refl _ | exact Le.nil _ | refine Le.hit ?_ | refine Le.hit1 ?_ | refine Le.hit2 ?_ | refine Le.hit3 ?_ | refine Le.hit4 ?_ | refine Le.hit5 ?_ | refine Le.hit6 ?_ | refine Le.hit7 ?_ | refine Le.hit8 ?_ | refine Le.hit9 ?_ | refine Le.hit10 ?_ | refine Le.skip ?_))
  · refine TL.nil ?_
    refine TX.thenN rfl rfl ?_
    refine TC.cfalse rfl ?_
    refine TC.exit ?_
    refine TX.thenE ?_
    refine TX.thenE ?_
    refine TX.blkH ?_
    refine TX.thenN rfl rfl ?_
    refine TC.seq ?_
    refine TC.region ?_
    refine TL.p (EvP.move rfl) ?_
    refine TL.callB rfl rfl Tryd.call11 (fun w hs => g_all hG 0 hs) ?_
    rintro _ E hu
    rw [cut_0] at hu
    obtain ⟨al, cl, rfl, _, _⟩ := hu.len
    refine TL.p (EvP.assign rfl) ?_
    refine TL.nil ?_
    refine TX.thenN rfl rfl ?_
    refine TC.seq ?_
    refine TC.seq ?_
    refine TC.region ?_
    refine TL.p (EvP.move rfl) ?_
    refine TL.p (EvP.lenS Tryd.runUnderlying26 rfl) ?_
    refine TL.p (EvP.isF (EvP.gt rfl rfl) (by omega)) ?_
    refine TL.p (EvP.move rfl) ?_
    refine TL.gY rfl rfl rfl ?_
    refine TL.p (EvP.move rfl) ?_
    refine TL.gY rfl rfl rfl ?_
    refine TL.p (EvP.lenS Tryd.runUnderlying26 rfl) ?_
    refine TL.gY rfl rfl rfl ?_
    refine TL.p (EvP.move rfl) ?_
    refine TL.gY rfl rfl rfl ?_
    refine TL.le (Le.hit1 (Le.refl _)) ?_
    refine TL.callB rfl rfl Tryd.call9 (fun w hs => g_len hG hs) ?_
    rintro _ C9 ⟨rfl, hC9⟩
    replace hC9 := hC9.symm
    subst hC9
    refine TL.gY rfl rfl rfl ?_
    refine TL.p (EvP.isF (EvP.ne rfl rfl) (by simp)) ?_
    refine TL.p (EvP.pickF rfl rfl) ?_
    refine TL.nil ?_
    refine TX.thenN rfl rfl ?_
    refine TC.cfalse rfl ?_
    refine TC.skip ?_
    refine TX.thenN rfl rfl ?_
    refine TC.seq ?_
    refine TC.seq ?_
    refine TC.region ?_
    refine TL.p (EvP.assign rfl) ?_
    refine TL.nil ?_
    refine TX.thenN rfl rfl ?_
    refine TC.block ?_
    refine TC.loop (ι := Nat) (fun i2 => [(3, .pointer (some ⟨g, 0, none⟩)), (5, .slice al L.length cl), (6, .int .i64 i2)]) (fun i2 => E :: C :: R) (fun i2 => i2 ≤ L.length) (fun i2 => L.length - i2) (0) (Nat.zero_le _) ⟨rfl, rfl, rfl, trivial⟩ (by repeat (first | exact Le.refl _ | exact Le.nil _ | refine Le.hit ?_ | refine Le.hit1 ?_ | refine Le.hit2 ?_ | refine Le.hit3 ?_ | refine Le.hit4 ?_ | refine Le.hit5 ?_ | refine Le.hit6 ?_ | refine Le.hit7 ?_ | refine Le.hit8 ?_ | refine Le.hit9 ?_ | refine Le.hit10 ?_ | refine Le.skip ?_)) ?_
    rintro i2 hi2
    change TC _ _ [(3, .pointer (some ⟨g, 0, none⟩)), (5, .slice al L.length cl), (6, .int .i64 i2)] (E :: C :: R) _
    refine TC.seq ?_
    refine TC.seq ?_
    refine TC.region ?_
    refine TL.p (EvP.move rfl) ?_
    refine TL.p (EvP.move rfl) ?_
    refine TL.p (EvP.lenS Tryd.runUnderlying26 rfl) ?_
    refine TL.dec (EvP.lt rfl rfl) (fun h73 => ?_) (fun h73 => ?_)
    · refine TL.nil ?_
      refine TX.thenN rfl rfl ?_
      refine TC.ctrue rfl ?_
      refine TC.skip ?_
      refine TX.thenN rfl rfl ?_
      refine TC.seq ?_
      refine TC.block ?_
      refine TC.seq ?_
      refine TC.region ?_
      refine TL.p (EvP.move rfl) ?_
      refine TL.p (EvP.move rfl) ?_
      refine TL.p (EvP.move rfl) ?_
      have hlt2 : i2 < L.length := by omega
      obtain ⟨e, hxe⟩ : ∃ e, L[i2]? = some e := ⟨_, List.getElem?_eq_getElem hlt2⟩
      have hem := List.mem_of_getElem? hxe
      refine TL.elem (hu.el encN_ok (j := i2) (x := e) hxe (by simp)) Tryd.runUnderlying26 Tryd.sizeOf45 rfl rfl (fun bE5 oE5 lE5 _ _ hE5 hcE5 => ?_)
      refine TL.p (EvP.fa rfl Tryd.runUnderlying45 rfl Tryd.sizeOf9 rfl) ?_
      refine TL.r (EvR.load rfl Tryd.isAgg9 hE5 hcE5.1) ?_
      refine TL.le (Le.hit1 (Le.refl _)) ?_
      refine TL.callB rfl rfl Tryd.call16 (fun w hs => (by have h := g_find hG e.n hs; rw [find_at hok hem] at h; exact h)) ?_
      rintro _ C9 ⟨rfl, hC9⟩
      replace hC9 := hC9.symm
      subst hC9
      refine TL.p (EvP.move rfl) ?_
      refine TL.p (EvP.extract rfl rfl) ?_
      refine TL.p (EvP.extract rfl rfl) ?_
      refine TL.p (EvP.assign rfl) ?_
      refine TL.p (EvP.assign rfl) ?_
      refine TL.nil ?_
      refine TX.thenN rfl rfl ?_
      refine TC.seq ?_
      refine TC.region ?_
      refine TL.p (EvP.move rfl) ?_
      refine TL.p (EvP.move rfl) ?_
      refine TL.p (EvP.move rfl) ?_
      refine TL.elem (hu.el encN_ok (j := i2) (x := e) hxe (by simp)) Tryd.runUnderlying26 Tryd.sizeOf45 rfl rfl (fun bE6 oE6 lE6 _ _ hE6 hcE6 => ?_)
      refine TL.p (EvP.fa rfl Tryd.runUnderlying45 rfl Tryd.sizeOf2 rfl) ?_
      refine TL.r (EvR.load rfl Tryd.isAgg2 hE6 hcE6.2.1) ?_
      refine TL.callB rfl rfl Tryd.call17 (fun w hs => (by have h := g_name hG e.p hs; rw [name_at hok hem] at h; exact h)) ?_
      rintro _ C9 ⟨rfl, hC9⟩
      replace hC9 := hC9.symm
      subst hC9
      refine TL.p (EvP.move rfl) ?_
      refine TL.p (EvP.extract rfl rfl) ?_
      refine TL.p (EvP.extract rfl rfl) ?_
      refine TL.p (EvP.assign rfl) ?_
      refine TL.p (EvP.assign rfl) ?_
      refine TL.nil ?_
      refine TX.thenN rfl rfl ?_
      refine TC.seq ?_
      refine TC.seq ?_
      refine TC.region ?_
      refine TL.p (EvP.move rfl) ?_
      refine TL.p (EvP.not rfl) ?_
      refine TL.p (EvP.move rfl) ?_
      refine TL.gY rfl rfl rfl ?_
      refine TL.p (EvP.move rfl) ?_
      refine TL.gY rfl rfl rfl ?_
      refine TL.p (EvP.not rfl) ?_
      refine TL.p (EvP.pickF rfl rfl) ?_
      refine TL.p (EvP.move rfl) ?_
      refine TL.gY rfl rfl rfl ?_
      refine TL.p (EvP.move rfl) ?_
      refine TL.gY rfl rfl rfl ?_
      refine TL.p (EvP.move rfl) ?_
      refine TL.gY rfl rfl rfl ?_
      refine TL.p (EvP.move rfl) ?_
      refine TL.gY rfl rfl rfl ?_
      refine TL.elem (hu.el encN_ok (j := i2) (x := e) hxe (by simp)) Tryd.runUnderlying26 Tryd.sizeOf45 rfl rfl (fun bE7 oE7 lE7 _ _ hE7 hcE7 => ?_)
      refine TL.gY rfl rfl rfl ?_
      refine TL.p (EvP.fa rfl Tryd.runUnderlying45 rfl Tryd.sizeOf2 rfl) ?_
      refine TL.gY rfl rfl rfl ?_
      refine TL.r (EvR.load rfl Tryd.isAgg2 hE7 hcE7.2.1) ?_
      refine TL.gY rfl rfl rfl ?_
      refine TL.p (EvP.isF (EvP.ne rfl rfl) (by simp)) ?_
      refine TL.p (EvP.pickF rfl rfl) ?_
      refine TL.p (EvP.move rfl) ?_
      refine TL.gY rfl rfl rfl ?_
      refine TL.p (EvP.move rfl) ?_
      refine TL.gY rfl rfl rfl ?_
      refine TL.p (EvP.move rfl) ?_
      refine TL.gY rfl rfl rfl ?_
      refine TL.p (EvP.move rfl) ?_
      refine TL.gY rfl rfl rfl ?_
      refine TL.elem (hu.el encN_ok (j := i2) (x := e) hxe (by simp)) Tryd.runUnderlying26 Tryd.sizeOf45 rfl rfl (fun bE8 oE8 lE8 _ _ hE8 hcE8 => ?_)
      refine TL.gY rfl rfl rfl ?_
      refine TL.p (EvP.fa rfl Tryd.runUnderlying45 rfl Tryd.sizeOf9 rfl) ?_
      refine TL.gY rfl rfl rfl ?_
      refine TL.r (EvR.load rfl Tryd.isAgg9 hE8 hcE8.1) ?_
      refine TL.gY rfl rfl rfl ?_
      refine TL.p (EvP.isF (EvP.neS rfl rfl) (by simp)) ?_
      refine TL.p (EvP.pickF rfl rfl) ?_
      refine TL.nil ?_
      refine TX.thenN rfl rfl ?_
      refine TC.cfalse rfl ?_
      refine TC.skip ?_
      refine TX.thenN rfl rfl ?_
      refine TC.seq ?_
      refine TC.region ?_
      refine TL.p (EvP.assign rfl) ?_
      refine TL.nil ?_
      refine TX.thenN rfl rfl ?_
      refine TC.block ?_
      refine TC.le (Le.hit1 (Le.hit (Le.refl _))) ?_
      refine TC.loop (ι := Nat) (fun k => [(3, .pointer (some ⟨g, 0, none⟩)), (5, .slice al L.length cl), (6, .int .i64 i2), (11, .int .i64 k)]) (fun k => E :: C :: R) (fun k => k ≤ i2) (fun k => i2 - k) (0) (Nat.zero_le _) ⟨rfl, rfl, rfl, rfl, trivial⟩ (by repeat (first | exact Le.refl _ | exact Le.nil _ | refine Le.hit ?_ | refine Le.hit1 ?_ | refine Le.hit2 ?_ | refine Le.hit3 ?_ | refine Le.hit4 ?_ | refine Le.hit5 ?_ | refine Le.hit6 ?_ | refine Le.hit7 ?_ | refine Le.hit8 ?_ | refine Le.hit9 ?_ | refine Le.hit10 ?_ | refine Le.skip ?_)) ?_
      rintro k hk
      change TC _ _ [(3, .pointer (some ⟨g, 0, none⟩)), (5, .slice al L.length cl), (6, .int .i64 i2), (11, .int .i64 k)] (E :: C :: R) _
      refine TC.seq ?_
      refine TC.seq ?_
      refine TC.region ?_
      refine TL.p (EvP.move rfl) ?_
      refine TL.p (EvP.move rfl) ?_
      refine TL.dec (EvP.lt rfl rfl) (fun h122 => ?_) (fun h122 => ?_)
      · refine TL.nil ?_
        refine TX.thenN rfl rfl ?_
        refine TC.ctrue rfl ?_
        refine TC.skip ?_
        refine TX.thenN rfl rfl ?_
        refine TC.seq ?_
        refine TC.block ?_
        refine TC.seq ?_
        refine TC.drawn (listed := #[false, false, false, false, false, false, false, false, false, false, false, false, false, false, false, false, false, false, false, false, false, false, false, false]) 24 (fun w => St w0 w (E :: C :: R)) rfl rfl rfl rfl (fun _ hs => hs) ?_
        refine TR.take 0 rfl (by kernel_rfl) (by kernel_rfl) (by kernel_rfl) (EvP.r (by exact EvP.move rfl)) (l' := #[true, false, false, false, false, false, false, false, false, false, false, false, false, false, false, false, false, false, false, false, false, false, false, false]) rfl ?_
        refine TR.take 1 rfl (by kernel_rfl) (by kernel_rfl) (by kernel_rfl) (EvP.r (by exact EvP.move rfl)) (l' := #[true, true, false, false, false, false, false, false, false, false, false, false, false, false, false, false, false, false, false, false, false, false, false, false]) rfl ?_
        have hki : k < i2 := by omega
        obtain ⟨f, hxf⟩ : ∃ f, L[k]? = some f := ⟨_, List.getElem?_eq_getElem (by omega)⟩
        have hEl : Els (fun w => St w0 w (E :: C :: R)) (.slice al L.length cl) 2 En.enc 45 L := hu.els encN_ok (by simp)
        obtain ⟨c1, o1, n1, k1, l1, _, _, q1, hj1, hb1, hc1⟩ := hEl.2 k f hxf
        obtain ⟨c2, o2, n2, k2, l2, _, _, q2, hj2, hb2, hc2⟩ := hEl.2 i2 e hxe
        cases q1
        cases q2
        refine TR.take 2 rfl (by kernel_rfl) (by kernel_rfl) (by kernel_rfl) (EvP.r (by exact EvP.ix (j := (k : Int)) Tryd.runUnderlying26 Tryd.sizeOf45 rfl rfl ⟨by omega, by omega⟩)) (l' := #[true, true, true, false, false, false, false, false, false, false, false, false, false, false, false, false, false, false, false, false, false, false, false, false]) rfl ?_
        refine TR.take 3 rfl (by kernel_rfl) (by kernel_rfl) (by kernel_rfl) (EvP.r (by exact EvP.fa rfl Tryd.runUnderlying45 rfl Tryd.sizeOf2 rfl)) (l' := #[true, true, true, true, false, false, false, false, false, false, false, false, false, false, false, false, false, false, false, false, false, false, false, false]) rfl ?_
        refine TR.take 4 rfl (by kernel_rfl) (by kernel_rfl) (by kernel_rfl) (EvR.load rfl Tryd.isAgg2 hb1 hc1.2.1) (l' := #[true, true, true, true, true, false, false, false, false, false, false, false, false, false, false, false, false, false, false, false, false, false, false, false]) rfl ?_
        refine TR.take 5 rfl (by kernel_rfl) (by kernel_rfl) (by kernel_rfl) (EvP.r (by exact EvP.move rfl)) (l' := #[true, true, true, true, true, true, false, false, false, false, false, false, false, false, false, false, false, false, false, false, false, false, false, false]) rfl ?_
        refine TR.take 6 rfl (by kernel_rfl) (by kernel_rfl) (by kernel_rfl) (EvP.r (by exact EvP.move rfl)) (l' := #[true, true, true, true, true, true, true, false, false, false, false, false, false, false, false, false, false, false, false, false, false, false, false, false]) rfl ?_
        refine TR.take 7 rfl (by kernel_rfl) (by kernel_rfl) (by kernel_rfl) (EvP.r (by exact EvP.ix (j := (i2 : Int)) Tryd.runUnderlying26 Tryd.sizeOf45 rfl rfl ⟨by omega, by omega⟩)) (l' := #[true, true, true, true, true, true, true, true, false, false, false, false, false, false, false, false, false, false, false, false, false, false, false, false]) rfl ?_
        refine TR.take 8 rfl (by kernel_rfl) (by kernel_rfl) (by kernel_rfl) (EvP.r (by exact EvP.fa rfl Tryd.runUnderlying45 rfl Tryd.sizeOf2 rfl)) (l' := #[true, true, true, true, true, true, true, true, true, false, false, false, false, false, false, false, false, false, false, false, false, false, false, false]) rfl ?_
        refine TR.take 9 rfl (by kernel_rfl) (by kernel_rfl) (by kernel_rfl) (EvR.load rfl Tryd.isAgg2 hb2 hc2.2.1) (l' := #[true, true, true, true, true, true, true, true, true, true, false, false, false, false, false, false, false, false, false, false, false, false, false, false]) rfl ?_
        refine TR.take 10 rfl (by kernel_rfl) (by kernel_rfl) (by kernel_rfl) (EvP.r (by exact EvP.isF (EvP.eq rfl rfl) (pair_p hok hxf hxe hki))) (l' := #[true, true, true, true, true, true, true, true, true, true, true, false, false, false, false, false, false, false, false, false, false, false, false, false]) rfl ?_
        refine TR.take 11 rfl (by kernel_rfl) (by kernel_rfl) (by kernel_rfl) (EvP.r (by exact EvP.move rfl)) (l' := #[true, true, true, true, true, true, true, true, true, true, true, true, false, false, false, false, false, false, false, false, false, false, false, false]) rfl ?_
        refine TR.takeY 12 rfl rfl rfl rfl (by kernel_rfl) (by kernel_rfl) (by kernel_rfl) (EvP.r (by exact EvP.move rfl)) (l' := #[true, true, true, true, true, true, true, true, true, true, true, true, true, false, false, false, false, false, false, false, false, false, false, false]) rfl ?_
        refine TR.takeY 13 rfl rfl rfl rfl (by kernel_rfl) (by kernel_rfl) (by kernel_rfl) (EvP.r (by exact EvP.move rfl)) (l' := #[true, true, true, true, true, true, true, true, true, true, true, true, true, true, false, false, false, false, false, false, false, false, false, false]) rfl ?_
        refine TR.takeY 14 rfl rfl rfl rfl (by kernel_rfl) (by kernel_rfl) (by kernel_rfl) (EvP.r (by exact EvP.ix (j := (k : Int)) Tryd.runUnderlying26 Tryd.sizeOf45 rfl rfl ⟨by omega, by omega⟩)) (l' := #[true, true, true, true, true, true, true, true, true, true, true, true, true, true, true, false, false, false, false, false, false, false, false, false]) rfl ?_
        refine TR.takeY 15 rfl rfl rfl rfl (by kernel_rfl) (by kernel_rfl) (by kernel_rfl) (EvP.r (by exact EvP.fa rfl Tryd.runUnderlying45 rfl Tryd.sizeOf9 rfl)) (l' := #[true, true, true, true, true, true, true, true, true, true, true, true, true, true, true, true, false, false, false, false, false, false, false, false]) rfl ?_
        refine TR.takeY 16 rfl rfl rfl rfl (by kernel_rfl) (by kernel_rfl) (by kernel_rfl) (EvR.load rfl Tryd.isAgg9 hb1 hc1.1) (l' := #[true, true, true, true, true, true, true, true, true, true, true, true, true, true, true, true, true, false, false, false, false, false, false, false]) rfl ?_
        refine TR.takeY 17 rfl rfl rfl rfl (by kernel_rfl) (by kernel_rfl) (by kernel_rfl) (EvP.r (by exact EvP.move rfl)) (l' := #[true, true, true, true, true, true, true, true, true, true, true, true, true, true, true, true, true, true, false, false, false, false, false, false]) rfl ?_
        refine TR.takeY 18 rfl rfl rfl rfl (by kernel_rfl) (by kernel_rfl) (by kernel_rfl) (EvP.r (by exact EvP.move rfl)) (l' := #[true, true, true, true, true, true, true, true, true, true, true, true, true, true, true, true, true, true, true, false, false, false, false, false]) rfl ?_
        refine TR.takeY 19 rfl rfl rfl rfl (by kernel_rfl) (by kernel_rfl) (by kernel_rfl) (EvP.r (by exact EvP.ix (j := (i2 : Int)) Tryd.runUnderlying26 Tryd.sizeOf45 rfl rfl ⟨by omega, by omega⟩)) (l' := #[true, true, true, true, true, true, true, true, true, true, true, true, true, true, true, true, true, true, true, true, false, false, false, false]) rfl ?_
        refine TR.takeY 20 rfl rfl rfl rfl (by kernel_rfl) (by kernel_rfl) (by kernel_rfl) (EvP.r (by exact EvP.fa rfl Tryd.runUnderlying45 rfl Tryd.sizeOf9 rfl)) (l' := #[true, true, true, true, true, true, true, true, true, true, true, true, true, true, true, true, true, true, true, true, true, false, false, false]) rfl ?_
        refine TR.takeY 21 rfl rfl rfl rfl (by kernel_rfl) (by kernel_rfl) (by kernel_rfl) (EvR.load rfl Tryd.isAgg9 hb2 hc2.1) (l' := #[true, true, true, true, true, true, true, true, true, true, true, true, true, true, true, true, true, true, true, true, true, true, false, false]) rfl ?_
        refine TR.takeY 22 rfl rfl rfl rfl (by kernel_rfl) (by kernel_rfl) (by kernel_rfl) (EvP.r (by exact EvP.isF (EvP.geS rfl rfl) (fun h => h (pair_n hok hxf hxe hki)))) (l' := #[true, true, true, true, true, true, true, true, true, true, true, true, true, true, true, true, true, true, true, true, true, true, true, false]) rfl ?_
        refine TR.take 23 rfl (by kernel_rfl) (by kernel_rfl) (by kernel_rfl) (EvP.r (by exact EvP.pickF rfl rfl)) (l' := #[true, true, true, true, true, true, true, true, true, true, true, true, true, true, true, true, true, true, true, true, true, true, true, true]) rfl ?_
        refine TR.done (by kernel_rfl) ?_
        refine TX.thenN rfl rfl ?_
        refine TC.cfalse rfl ?_
        refine TC.skip ?_
        refine TX.blkN ?_
        refine TX.thenN rfl rfl ?_
        refine TC.region ?_
        refine TL.p (EvP.move rfl) ?_
        refine TL.p (EvP.add rfl rfl (by omega)) ?_
        refine TL.p (EvP.assign rfl) ?_
        refine TL.nil ?_
        refine TX.back (k + 1) (by omega) (by omega) ⟨rfl, rfl, rfl, rfl, trivial⟩ (by repeat (first | exact Le.refl _ | exact Le.nil _ | refine Le.hit ?_ | refine Le.hit1 ?_ | refine Le.hit2 ?_ | refine Le.hit3 ?_ | refine Le.hit4 ?_ | refine Le.hit5 ?_ | refine Le.hit6 ?_ | refine Le.hit7 ?_ | refine Le.hit8 ?_ | refine Le.hit9 ?_ | refine Le.hit10 ?_ | refine Le.skip ?_))
      · refine TL.nil ?_
        refine TX.thenN rfl rfl ?_
        refine TC.cfalse rfl ?_
        refine TC.exit ?_
        refine TX.thenE ?_
        refine TX.thenE ?_
        refine TX.blkH ?_
        refine TX.blkN ?_
        refine TX.thenN rfl rfl ?_
        refine TC.region ?_
        refine TL.p (EvP.move rfl) ?_
        refine TL.p (EvP.add rfl rfl (by omega)) ?_
        refine TL.p (EvP.assign rfl) ?_
        refine TL.nil ?_
        refine TX.back (i2 + 1) (by omega) (by omega) ⟨rfl, rfl, rfl, trivial⟩ (by repeat (first | exact Le.refl _ | exact Le.nil _ | refine Le.hit ?_ | refine Le.hit1 ?_ | refine Le.hit2 ?_ | refine Le.hit3 ?_ | refine Le.hit4 ?_ | refine Le.hit5 ?_ | refine Le.hit6 ?_ | refine Le.hit7 ?_ | refine Le.hit8 ?_ | refine Le.hit9 ?_ | refine Le.hit10 ?_ | refine Le.skip ?_))
    · refine TL.nil ?_
      refine TX.thenN rfl rfl ?_
      refine TC.cfalse rfl ?_
      refine TC.exit ?_
      refine TX.thenE ?_
      refine TX.thenE ?_
      refine TX.blkH ?_
      refine TX.thenN rfl rfl ?_
      refine TC.seq ?_
      refine TC.region ?_
      refine TL.callA rfl rfl Tryd.call12 (fun w hs => known_spec hT hs) ?_
      rintro _ rfl
      refine TL.p (EvP.assign rfl) ?_
      refine TL.nil ?_
      refine TX.thenN rfl rfl ?_
      refine TC.ret ?_
      refine TX.done rfl (Res.one rfl rfl) (fun w hs => Post0.mk hs ?_ (by repeat (first | exact Le.refl _ | exact Le.nil _ | refine Le.hit ?_ | refine Le.hit1 ?_ | refine Le.hit2 ?_ | refine Le.hit3 ?_ | refine Le.hit4 ?_ | refine Le.hit5 ?_ | refine Le.hit6 ?_ | refine Le.hit7 ?_ | refine Le.hit8 ?_ | refine Le.hit9 ?_ | refine Le.hit10 ?_ | refine Le.skip ?_)))
      rfl

theorem n_name {w0 w : World} {R : List Chunk} {p : Int} (hst : St w0 w R) : Calls Tryd.prog 17 #[.pointer none, .int .i64 p] w (Post0 w0 R fun u => u = .tuple #[sv [], .bool false]) := by
  refine calls_of (args := [_, _]) Tryd.func17 rfl Tryd.ntmps17 hst ?_
  refine TC.seq ?_
  refine TC.region ?_
  refine TL.p (EvP.assign rfl) ?_
  refine TL.p (EvP.assign rfl) ?_
  refine TL.nil ?_
  refine TX.thenN rfl rfl ?_
  refine TC.seq ?_
  refine TC.seq ?_
  refine TC.region ?_
  refine TL.p (EvP.move rfl) ?_
  refine TL.p (EvP.eqPtrNil Tryd.runUnderlying23 rfl rfl) ?_
  refine TL.nil ?_
  refine TX.thenN rfl rfl ?_
  refine TC.ctrue rfl ?_
  refine TC.seq ?_
  refine TC.region ?_
  refine TL.p (EvP.assign rfl) ?_
  refine TL.p (EvP.assign rfl) ?_
  refine TL.nil ?_
  refine TX.thenN rfl rfl ?_
  refine TC.ret ?_
  refine TX.thenR ?_
  refine TX.done rfl (Res.two rfl rfl rfl) (fun w hs => Post0.mk hs ?_ (by repeat (first | exact Le.refl _ | exact Le.nil _ | refine Le.hit ?_ | refine Le.hit1 ?_ | refine Le.hit2 ?_ | refine Le.hit3 ?_ | refine Le.hit4 ?_ | refine Le.hit5 ?_ | refine Le.hit6 ?_ | refine Le.hit7 ?_ | refine Le.hit8 ?_ | refine Le.hit9 ?_ | refine Le.hit10 ?_ | refine Le.skip ?_)))
  rfl

theorem n_gone {w0 w : World} {R : List Chunk} {p : Int} (hst : St w0 w R) : Calls Tryd.prog 15 #[.pointer none, .int .i64 p] w (Post0 w0 R fun u => u = .tuple #[sv [], .bool false]) := by
  refine calls_of (args := [_, _]) Tryd.func15 rfl Tryd.ntmps15 hst ?_
  refine TC.seq ?_
  refine TC.region ?_
  refine TL.p (EvP.assign rfl) ?_
  refine TL.p (EvP.assign rfl) ?_
  refine TL.nil ?_
  refine TX.thenN rfl rfl ?_
  refine TC.seq ?_
  refine TC.region ?_
  refine TL.p (EvP.move rfl) ?_
  refine TL.p (EvP.move rfl) ?_
  refine TL.callA rfl rfl Tryd.call17 (fun w hs => n_name hs) ?_
  rintro _ rfl
  refine TL.p (EvP.move rfl) ?_
  refine TL.p (EvP.extract rfl rfl) ?_
  refine TL.p (EvP.extract rfl rfl) ?_
  refine TL.p (EvP.assign rfl) ?_
  refine TL.p (EvP.assign rfl) ?_
  refine TL.nil ?_
  refine TX.thenN rfl rfl ?_
  refine TC.seq ?_
  refine TC.seq ?_
  refine TC.region ?_
  refine TL.p (EvP.move rfl) ?_
  refine TL.nil ?_
  refine TX.thenN rfl rfl ?_
  refine TC.cfalse rfl ?_
  refine TC.skip ?_
  refine TX.thenN rfl rfl ?_
  refine TC.seq ?_
  refine TC.region ?_
  refine TL.p (EvP.move rfl) ?_
  refine TL.p (EvP.move rfl) ?_
  refine TL.p (EvP.assign rfl) ?_
  refine TL.p (EvP.assign rfl) ?_
  refine TL.nil ?_
  refine TX.thenN rfl rfl ?_
  refine TC.ret ?_
  refine TX.done rfl (Res.two rfl rfl rfl) (fun w hs => Post0.mk hs ?_ (by repeat (first | exact Le.refl _ | exact Le.nil _ | refine Le.hit ?_ | refine Le.hit1 ?_ | refine Le.hit2 ?_ | refine Le.hit3 ?_ | refine Le.hit4 ?_ | refine Le.hit5 ?_ | refine Le.hit6 ?_ | refine Le.hit7 ?_ | refine Le.hit8 ?_ | refine Le.hit9 ?_ | refine Le.hit10 ?_ | refine Le.skip ?_)))
  rfl

theorem n_find {w0 w : World} {R : List Chunk} {s : Str} (hst : St w0 w R) : Calls Tryd.prog 16 #[.pointer none, sv s] w (Post0 w0 R fun u => u = .tuple #[.int .i64 0, .bool false]) := by
  refine calls_of (args := [_, _]) Tryd.func16 rfl Tryd.ntmps16 hst ?_
  refine TC.seq ?_
  refine TC.region ?_
  refine TL.p (EvP.assign rfl) ?_
  refine TL.p (EvP.assign rfl) ?_
  refine TL.nil ?_
  refine TX.thenN rfl rfl ?_
  refine TC.seq ?_
  refine TC.seq ?_
  refine TC.region ?_
  refine TL.p (EvP.move rfl) ?_
  refine TL.p (EvP.eqPtrNil Tryd.runUnderlying23 rfl rfl) ?_
  refine TL.nil ?_
  refine TX.thenN rfl rfl ?_
  refine TC.ctrue rfl ?_
  refine TC.seq ?_
  refine TC.region ?_
  refine TL.p (EvP.assign rfl) ?_
  refine TL.p (EvP.assign rfl) ?_
  refine TL.nil ?_
  refine TX.thenN rfl rfl ?_
  refine TC.ret ?_
  refine TX.thenR ?_
  refine TX.done rfl (Res.two rfl rfl rfl) (fun w hs => Post0.mk hs ?_ (by repeat (first | exact Le.refl _ | exact Le.nil _ | refine Le.hit ?_ | refine Le.hit1 ?_ | refine Le.hit2 ?_ | refine Le.hit3 ?_ | refine Le.hit4 ?_ | refine Le.hit5 ?_ | refine Le.hit6 ?_ | refine Le.hit7 ?_ | refine Le.hit8 ?_ | refine Le.hit9 ?_ | refine Le.hit10 ?_ | refine Le.skip ?_)))
  rfl

theorem n_add {w0 w : World} {R : List Chunk} {s : Str} {p : Int} (hst : St w0 w R) : Calls Tryd.prog 13 #[.pointer none, sv s, .int .i64 p] w (Post0 w0 R fun u => u = .int .i64 2) := by
  refine calls_of (args := [_, _, _]) Tryd.func13 rfl Tryd.ntmps13 hst ?_
  refine TC.seq ?_
  refine TC.region ?_
  refine TL.p (EvP.assign rfl) ?_
  refine TL.nil ?_
  refine TX.thenN rfl rfl ?_
  refine TC.seq ?_
  refine TC.seq ?_
  refine TC.region ?_
  refine TL.p (EvP.move rfl) ?_
  refine TL.p (EvP.eqPtrNil Tryd.runUnderlying23 rfl rfl) ?_
  refine TL.nil ?_
  refine TX.thenN rfl rfl ?_
  refine TC.ctrue rfl ?_
  refine TC.seq ?_
  refine TC.region ?_
  refine TL.p (EvP.assign rfl) ?_
  refine TL.nil ?_
  refine TX.thenN rfl rfl ?_
  refine TC.ret ?_
  refine TX.thenR ?_
  refine TX.done rfl (Res.one rfl rfl) (fun w hs => Post0.mk hs ?_ (by repeat (first | exact Le.refl _ | exact Le.nil _ | refine Le.hit ?_ | refine Le.hit1 ?_ | refine Le.hit2 ?_ | refine Le.hit3 ?_ | refine Le.hit4 ?_ | refine Le.hit5 ?_ | refine Le.hit6 ?_ | refine Le.hit7 ?_ | refine Le.hit8 ?_ | refine Le.hit9 ?_ | refine Le.hit10 ?_ | refine Le.skip ?_)))
  rfl

theorem n_drop {w0 w : World} {R : List Chunk} {s : Str} (hst : St w0 w R) : Calls Tryd.prog 14 #[.pointer none, sv s] w (Post0 w0 R fun u => u = .int .i64 2) := by
  refine calls_of (args := [_, _]) Tryd.func14 rfl Tryd.ntmps14 hst ?_
  refine TC.seq ?_
  refine TC.region ?_
  refine TL.p (EvP.assign rfl) ?_
  refine TL.nil ?_
  refine TX.thenN rfl rfl ?_
  refine TC.seq ?_
  refine TC.seq ?_
  refine TC.region ?_
  refine TL.p (EvP.move rfl) ?_
  refine TL.p (EvP.eqPtrNil Tryd.runUnderlying23 rfl rfl) ?_
  refine TL.nil ?_
  refine TX.thenN rfl rfl ?_
  refine TC.ctrue rfl ?_
  refine TC.seq ?_
  refine TC.region ?_
  refine TL.p (EvP.assign rfl) ?_
  refine TL.nil ?_
  refine TX.thenN rfl rfl ?_
  refine TC.ret ?_
  refine TX.thenR ?_
  refine TX.done rfl (Res.one rfl rfl) (fun w hs => Post0.mk hs ?_ (by repeat (first | exact Le.refl _ | exact Le.nil _ | refine Le.hit ?_ | refine Le.hit1 ?_ | refine Le.hit2 ?_ | refine Le.hit3 ?_ | refine Le.hit4 ?_ | refine Le.hit5 ?_ | refine Le.hit6 ?_ | refine Le.hit7 ?_ | refine Le.hit8 ?_ | refine Le.hit9 ?_ | refine Le.hit10 ?_ | refine Le.skip ?_)))
  rfl

theorem n_len {w0 w : World} {R : List Chunk} (hst : St w0 w R) : Calls Tryd.prog 9 #[.pointer none] w (Post0 w0 R fun u => u = .int .i64 0) := by
  refine calls_of (args := [_]) Tryd.func9 rfl Tryd.ntmps9 hst ?_
  refine TC.seq ?_
  refine TC.region ?_
  refine TL.p (EvP.assign rfl) ?_
  refine TL.nil ?_
  refine TX.thenN rfl rfl ?_
  refine TC.seq ?_
  refine TC.seq ?_
  refine TC.region ?_
  refine TL.p (EvP.move rfl) ?_
  refine TL.p (EvP.eqPtrNil Tryd.runUnderlying23 rfl rfl) ?_
  refine TL.nil ?_
  refine TX.thenN rfl rfl ?_
  refine TC.ctrue rfl ?_
  refine TC.seq ?_
  refine TC.region ?_
  refine TL.p (EvP.assign rfl) ?_
  refine TL.nil ?_
  refine TX.thenN rfl rfl ?_
  refine TC.ret ?_
  refine TX.thenR ?_
  refine TX.done rfl (Res.one rfl rfl) (fun w hs => Post0.mk hs ?_ (by repeat (first | exact Le.refl _ | exact Le.nil _ | refine Le.hit ?_ | refine Le.hit1 ?_ | refine Le.hit2 ?_ | refine Le.hit3 ?_ | refine Le.hit4 ?_ | refine Le.hit5 ?_ | refine Le.hit6 ?_ | refine Le.hit7 ?_ | refine Le.hit8 ?_ | refine Le.hit9 ?_ | refine Le.hit10 ?_ | refine Le.skip ?_)))
  rfl

theorem n_iter {b1 : Nat} : Iter Tryd.prog 30 [.pointer (some ⟨b1, 0, none⟩)] [[(b1, .cells [.pointer none].toArray 23 (0, 0))]] [] := by
  intro w0 l J Jx hy R w hJ0 hst
  refine calls_of (args := [_, _]) Tryd.func30 rfl Tryd.ntmps30 hst ?_
  refine TC.seq ?_
  refine TC.seq ?_
  refine TC.region ?_
  refine TL.r (EvR.load rfl Tryd.isAgg23 (AtB.own (by repeat (first | exact Has.hd | refine Has.tlb ?_ | refine Has.tlc ?_))) (by rfl)) ?_
  refine TL.p (EvP.eqPtrNil Tryd.runUnderlying23 rfl rfl) ?_
  refine TL.nil ?_
  refine TX.thenN rfl rfl ?_
  refine TC.ctrue rfl ?_
  refine TC.ret ?_
  refine TX.thenR ?_
  refine TX.done rfl (Res.none rfl) (fun w hs => ⟨rfl, R, .inl hJ0, hs⟩)

theorem n_all {w0 w : World} {R : List Chunk} {most : Int} (hst : St w0 w R) : Calls Tryd.prog 11 #[.pointer none, .int .i64 most] w (Post0 w0 R fun u => u = .slice none 0 0) := by
  refine calls_of (args := [_, _]) Tryd.func11 rfl Tryd.ntmps11 hst ?_
  refine TC.seq ?_
  refine TC.region ?_
  refine TL.box rfl rfl (fun b3 => ?_)
  refine TL.p (EvP.assign rfl) ?_
  refine TL.nil ?_
  refine TX.thenN rfl rfl ?_
  refine TC.seq ?_
  refine TC.region ?_
  refine TL.alloc Tryd.zeroValue26 rfl (fun b5 => ?_)
  refine TL.nil ?_
  refine TX.thenN rfl rfl ?_
  refine TC.seq ?_
  refine TC.region ?_
  refine TL.p (EvP.move rfl) ?_
  refine TL.callB rfl rfl Tryd.call24 (fun w hs => All_spec hs) ?_
  rintro _ _ ⟨b1, rfl, rfl⟩
  refine TL.p (EvP.assign rfl) ?_
  refine TL.nil ?_
  refine TX.thenN rfl rfl ?_
  refine TC.seq ?_
  refine TC.seq ?_
  refine TC.region ?_
  refine TL.p (EvP.move rfl) ?_
  refine TL.p (EvP.eqFnNil Tryd.runUnderlying56 rfl rfl) ?_
  refine TL.nil ?_
  refine TX.thenN rfl rfl ?_
  refine TC.cfalse rfl ?_
  refine TC.skip ?_
  refine TX.thenN rfl rfl ?_
  refine TC.seq ?_
  refine TC.seq ?_
  refine TC.region ?_
  refine TL.p (EvP.move rfl) ?_
  refine TL.nil ?_
  refine TX.thenN rfl rfl ?_
  refine TC.block ?_
  refine TC.le (H' := [(b1, .cells [.pointer none].toArray 23 (0, 0))] :: [(b5, .cells [.slice none 0 0].toArray 26 (0, 0))] :: R) (by repeat (first | exact Le.refl _ | exact Le.nil _ | refine Le.hit ?_ | refine Le.hit1 ?_ | refine Le.hit2 ?_ | refine Le.hit3 ?_ | refine Le.hit4 ?_ | refine Le.hit5 ?_ | refine Le.hit6 ?_ | refine Le.hit7 ?_ | refine Le.hit8 ?_ | refine Le.hit9 ?_ | refine Le.hit10 ?_ | refine Le.skip ?_)) ?_
  refine TC.rangeF (Hit := [[(b1, .cells [.pointer none].toArray 23 (0, 0))]]) (R0 := [(b5, .cells [.slice none 0 0].toArray 26 (0, 0))] :: R) rfl rfl Tryd.call30 n_iter (by intro x hx; cases hx) rfl (Le.refl _) (fun i R2 => R2 = [(b5, .cells [.slice none 0 0].toArray 26 (0, 0))] :: R) (fun _ _ => False) rfl ?_ ?_ ?_
  · intro l i x R2 HL HL2 hx; simp at hx
  · rintro dd _ rfl
    refine TX.le Le.comm2 ?_
    refine TX.blkN ?_
    refine TX.thenN rfl rfl ?_
    refine TC.seq ?_
    refine TC.region ?_
    refine TL.r (EvR.load rfl Tryd.isAgg26 (AtB.own (by repeat (first | exact Has.hd | refine Has.tlb ?_ | refine Has.tlc ?_))) (by rfl)) ?_
    refine TL.p (EvP.assign rfl) ?_
    refine TL.nil ?_
    refine TX.thenN rfl rfl ?_
    refine TC.ret ?_
    refine TX.doneM rfl (by repeat (first | exact Upd.hd | apply Upd.tlb | apply Upd.tlc)) (Res.one rfl rfl) (fun w hs => Post0.mk hs rfl (by simp only [List.cons_append, List.nil_append]; repeat (first | exact Le.refl _ | exact Le.nil _ | refine Le.hit ?_ | refine Le.hit1 ?_ | refine Le.hit2 ?_ | refine Le.hit3 ?_ | refine Le.hit4 ?_ | refine Le.hit5 ?_ | refine Le.hit6 ?_ | refine Le.hit7 ?_ | refine Le.hit8 ?_ | refine Le.hit9 ?_ | refine Le.hit10 ?_ | refine Le.skip ?_)))
  · intro _ _ _ h; exact h.elim

theorem nil_walk {w0 w : World} {R : List Chunk} (hT : Tabs w0) (s : Str) (p : Int) (hst : St w0 w R) : Calls Tryd.prog 6 #[sv s, .int .i64 p] w (Post0 w0 R fun u => u = .bool true) := by
  refine calls_of (args := [_, _]) Tryd.func6 rfl Tryd.ntmps6 hst ?_
  refine TC.seq ?_
  refine TC.region ?_
  refine TL.p (EvP.assign rfl) ?_
  refine TL.nil ?_
  refine TX.thenN rfl rfl ?_
  refine TC.seq ?_
  refine TC.region ?_
  refine TL.p (EvP.assign rfl) ?_
  refine TL.nil ?_
  refine TX.thenN rfl rfl ?_
  refine TC.seq ?_
  refine TC.region ?_
  refine TL.p (EvP.move rfl) ?_
  refine TL.p (EvP.move rfl) ?_
  refine TL.callA rfl rfl Tryd.call15 (fun w hs => n_gone hs) ?_
  rintro _ rfl
  refine TL.p (EvP.move rfl) ?_
  refine TL.p (EvP.extract rfl rfl) ?_
  refine TL.p (EvP.extract rfl rfl) ?_
  refine TL.p (EvP.assign rfl) ?_
  refine TL.p (EvP.assign rfl) ?_
  refine TL.nil ?_
  refine TX.thenN rfl rfl ?_
  refine TC.seq ?_
  refine TC.region ?_
  refine TL.p (EvP.move rfl) ?_
  refine TL.p (EvP.move rfl) ?_
  refine TL.callA rfl rfl Tryd.call16 (fun w hs => n_find hs) ?_
  rintro _ rfl
  refine TL.p (EvP.move rfl) ?_
  refine TL.p (EvP.extract rfl rfl) ?_
  refine TL.p (EvP.extract rfl rfl) ?_
  refine TL.p (EvP.assign rfl) ?_
  refine TL.p (EvP.assign rfl) ?_
  refine TL.nil ?_
  refine TX.thenN rfl rfl ?_
  refine TC.seq ?_
  refine TC.region ?_
  refine TL.p (EvP.move rfl) ?_
  refine TL.p (EvP.move rfl) ?_
  refine TL.callA rfl rfl Tryd.call17 (fun w hs => n_name hs) ?_
  rintro _ rfl
  refine TL.p (EvP.move rfl) ?_
  refine TL.p (EvP.extract rfl rfl) ?_
  refine TL.p (EvP.extract rfl rfl) ?_
  refine TL.p (EvP.assign rfl) ?_
  refine TL.p (EvP.assign rfl) ?_
  refine TL.nil ?_
  refine TX.thenN rfl rfl ?_
  refine TC.seq ?_
  refine TC.region ?_
  refine TL.p (EvP.move rfl) ?_
  refine TL.p (EvP.move rfl) ?_
  refine TL.p (EvP.move rfl) ?_
  refine TL.callA rfl rfl Tryd.call13 (fun w hs => n_add hs) ?_
  rintro _ rfl
  refine TL.p (EvP.eq rfl rfl) ?_
  refine TL.p (EvP.move rfl) ?_
  refine TL.gY rfl rfl rfl ?_
  refine TL.p (EvP.move rfl) ?_
  refine TL.gY rfl rfl rfl ?_
  refine TL.p (EvP.move rfl) ?_
  refine TL.gY rfl rfl rfl ?_
  refine TL.callA rfl rfl Tryd.call14 (fun w hs => n_drop hs) ?_
  rintro _ rfl
  refine TL.gY rfl rfl rfl ?_
  refine TL.p (EvP.eq rfl rfl) ?_
  refine TL.p (EvP.pickT rfl rfl) ?_
  refine TL.p (EvP.move rfl) ?_
  refine TL.gY rfl rfl rfl ?_
  refine TL.p (EvP.move rfl) ?_
  refine TL.gY rfl rfl rfl ?_
  refine TL.p (EvP.isT (EvP.eqS rfl rfl) (rfl)) ?_
  refine TL.p (EvP.pickT rfl rfl) ?_
  refine TL.p (EvP.move rfl) ?_
  refine TL.gY rfl rfl rfl ?_
  refine TL.p (EvP.move rfl) ?_
  refine TL.gY rfl rfl rfl ?_
  refine TL.p (EvP.not rfl) ?_
  refine TL.p (EvP.pickT rfl rfl) ?_
  refine TL.p (EvP.move rfl) ?_
  refine TL.gY rfl rfl rfl ?_
  refine TL.p (EvP.move rfl) ?_
  refine TL.gY rfl rfl rfl ?_
  refine TL.p (EvP.eq rfl rfl) ?_
  refine TL.p (EvP.pickT rfl rfl) ?_
  refine TL.p (EvP.move rfl) ?_
  refine TL.gY rfl rfl rfl ?_
  refine TL.p (EvP.move rfl) ?_
  refine TL.gY rfl rfl rfl ?_
  refine TL.p (EvP.not rfl) ?_
  refine TL.p (EvP.pickT rfl rfl) ?_
  refine TL.p (EvP.move rfl) ?_
  refine TL.gY rfl rfl rfl ?_
  refine TL.p (EvP.move rfl) ?_
  refine TL.gY rfl rfl rfl ?_
  refine TL.p (EvP.isT (EvP.eqS rfl rfl) (rfl)) ?_
  refine TL.p (EvP.pickT rfl rfl) ?_
  refine TL.p (EvP.move rfl) ?_
  refine TL.gY rfl rfl rfl ?_
  refine TL.p (EvP.move rfl) ?_
  refine TL.gY rfl rfl rfl ?_
  refine TL.p (EvP.not rfl) ?_
  refine TL.p (EvP.pickT rfl rfl) ?_
  refine TL.p (EvP.move rfl) ?_
  refine TL.gY rfl rfl rfl ?_
  refine TL.p (EvP.move rfl) ?_
  refine TL.gY rfl rfl rfl ?_
  refine TL.callA rfl rfl Tryd.call11 (fun w hs => n_all hs) ?_
  rintro _ rfl
  refine TL.gY rfl rfl rfl ?_
  refine TL.p (EvP.lenS Tryd.runUnderlying26 rfl) ?_
  refine TL.gY rfl rfl rfl ?_
  refine TL.p (EvP.eq rfl rfl) ?_
  refine TL.p (EvP.pickT rfl rfl) ?_
  refine TL.p (EvP.move rfl) ?_
  refine TL.gY rfl rfl rfl ?_
  refine TL.p (EvP.move rfl) ?_
  refine TL.gY rfl rfl rfl ?_
  refine TL.callA rfl rfl Tryd.call9 (fun w hs => n_len hs) ?_
  rintro _ rfl
  refine TL.gY rfl rfl rfl ?_
  refine TL.p (EvP.eq rfl rfl) ?_
  refine TL.p (EvP.pickT rfl rfl) ?_
  refine TL.p (EvP.move rfl) ?_
  refine TL.gY rfl rfl rfl ?_
  refine TL.callA rfl rfl Tryd.call12 (fun w hs => known_spec hT hs) ?_
  rintro _ rfl
  refine TL.p (EvP.pickT rfl rfl) ?_
  refine TL.p (EvP.assign rfl) ?_
  refine TL.nil ?_
  refine TX.thenN rfl rfl ?_
  refine TC.ret ?_
  refine TX.done rfl (Res.one rfl rfl) (fun w hs => Post0.mk hs ?_ (by repeat (first | exact Le.refl _ | exact Le.nil _ | refine Le.hit ?_ | refine Le.hit1 ?_ | refine Le.hit2 ?_ | refine Le.hit3 ?_ | refine Le.hit4 ?_ | refine Le.hit5 ?_ | refine Le.hit6 ?_ | refine Le.hit7 ?_ | refine Le.hit8 ?_ | refine Le.hit9 ?_ | refine Le.hit10 ?_ | refine Le.skip ?_)))
  rfl
end Go.Proofs.YtocohlcmkbnegaaDoor
