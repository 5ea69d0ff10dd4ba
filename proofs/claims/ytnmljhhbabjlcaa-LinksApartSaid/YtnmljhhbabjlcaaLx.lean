/-
  The walk of LinksApart: whatever the script, the pid and the call, it answers true.
-/
import Derived.Test.YtnmljhhbabjlcaaLw
set_option linter.unusedSimpArgs false
set_option linter.unusedVariables false
set_option maxRecDepth 100000
namespace Go.Proofs.Ytnmljhhbabjlcaa
open Go Go.RowKit

theorem Reach.comp {L : List Bond} {p x : Int} (h : LOk L) (hp : okPid p = true) (hr : Reach L p x) : x ∈ grp L p := (mem_grp h).2 ⟨hp, hr⟩
theorem ends_pair {a b x y : Int} (h : ((pairB a b).f = x ∧ (pairB a b).t = y) ∨ ((pairB a b).t = x ∧ (pairB a b).f = y)) : x = a ∨ x = b := by
  simp only [pairB] at h
  omega
/-- Only the bond of these two may come or go. -/
theorem apart_reach {L M : List Bond} (h : LOk L) {p a b : Int} (hp : okPid p = true) (hoff : ∀ z ∈ grp L p, z ≠ a ∧ z ≠ b) (h1 : ∀ c ∈ M, c ∈ L ∨ c = pairB a b) (h2 : ∀ c ∈ L, c ∈ M ∨ c = pairB a b) (x : Int) : Reach L p x ↔ Reach M p x := by
  constructor
  · intro hr
    induction hr with
    | refl => exact .refl
    | step hx ha ih =>
      obtain ⟨c, hc, hr0, hcc⟩ := ha
      rcases h2 c hc with hm | rfl
      · exact .step ih ⟨c, hm, hr0, hcc⟩
      · have := hoff _ (hx.comp h hp)
        exact absurd (ends_pair hcc) (fun e => e.elim this.1 this.2)
  · intro hr
    induction hr with
    | refl => exact .refl
    | step hx ha ih =>
      obtain ⟨c, hc, hr0, hcc⟩ := ha
      rcases h1 c hc with hm | rfl
      · exact .step ih ⟨c, hm, hr0, hcc⟩
      · have := hoff _ (ih.comp h hp)
        exact absurd (ends_pair hcc) (fun e => e.elim this.1 this.2)
theorem stp_mem {L : List Bond} {o : LOp} (hk : o.k = 0 ∨ o.k = 1) : (∀ c ∈ stp L o, c ∈ L ∨ c = pairB o.a o.b) ∧ (∀ c ∈ L, c ∈ stp L o ∨ c = pairB o.a o.b) := by
  unfold stp
  rcases hk with hk | hk
  · rw [if_pos hk]
    unfold lnk
    split
    · exact ⟨fun c hc => .inl hc, fun c hc => .inl hc⟩
    · split
      · exact ⟨fun c hc => .inl hc, fun c hc => .inl hc⟩
      · split
        · exact ⟨fun c hc => .inl hc, fun c hc => .inl hc⟩
        · exact ⟨fun c hc => (List.mem_append.1 hc).imp id (fun h => List.mem_singleton.1 h), fun c hc => .inl (List.mem_append_left _ hc)⟩
  · rw [if_neg (by omega), if_pos hk]
    unfold unl
    split
    · exact ⟨fun c hc => .inl hc, fun c hc => .inl hc⟩
    · split
      · refine ⟨fun c hc => .inl (List.mem_of_mem_erase hc), fun c hc => ?_⟩
        by_cases e : c = pairB o.a o.b
        · exact .inr e
        · exact .inl ((List.mem_erase_of_ne e).2 hc)
      · exact ⟨fun c hc => .inl hc, fun c hc => .inl hc⟩
theorem apart_grp {L : List Bond} (h : LOk L) {o : LOp} (h' : LOk (stp L o)) (hk : o.k = 0 ∨ o.k = 1) {p : Int} (hoff : ∀ z ∈ grp L p, z ≠ o.a ∧ z ≠ o.b) : grp (stp L o) p = grp L p := by
  by_cases hp : okPid p = true
  · obtain ⟨h1, h2⟩ := stp_mem (L := L) hk
    exact (grp_congr h h' (apart_reach h hp hoff h1 h2)).symm
  · unfold grp
    rw [if_neg hp, if_neg hp]
theorem of_erase {L : List Bond} {p : Int} {c : Bond} (hc : ofP p c = false) : ofL (L.erase c) p = ofL L p := by
  unfold ofL
  induction L with
  | nil => rfl
  | cons x L ih =>
    by_cases e : x = c
    · subst e
      rw [List.erase_cons_head, List.filter_cons, if_neg (by simp [hc])]
    · rw [List.erase_cons_tail (by simpa using e), List.filter_cons, List.filter_cons, ih]
theorem apart_of {L : List Bond} (h : LOk L) {o : LOp} (hk : o.k = 0 ∨ o.k = 1) {p : Int} (ha : ¬p = o.a) (hb : ¬p = o.b) : ofL (stp L o) p = ofL L p := by
  have hno : ofP p (pairB o.a o.b) = false := by
    have h1 : (pairB o.a o.b).f ≠ p := by
      show min o.a o.b ≠ p
      rcases Int.le_total o.a o.b with hab | hab
      · rw [Int.min_eq_left hab]; exact fun e => ha e.symm
      · rw [Int.min_eq_right hab]; exact fun e => hb e.symm
    have h2 : (pairB o.a o.b).t ≠ p := by
      show max o.a o.b ≠ p
      rcases Int.le_total o.a o.b with hab | hab
      · rw [Int.max_eq_right hab]; exact fun e => hb e.symm
      · rw [Int.max_eq_left hab]; exact fun e => ha e.symm
    simp [ofP, h1, h2]
  unfold stp
  rcases hk with hk | hk
  · rw [if_pos hk]
    unfold lnk
    split
    · rfl
    · split
      · rfl
      · split
        · rfl
        · unfold ofL
          rw [List.filter_append]
          simp [hno]
  · rw [if_neg (by omega), if_pos hk]
    unfold unl
    split
    · rfl
    · split
      · exact of_erase hno
      · rfl
theorem apart_step {l : List Int} {i : Nat} {x a b : Int} (hx : l[i]? = some x) (hi : i ≤ l.length) (h : ∀ z ∈ l.take i, z ≠ a ∧ z ≠ b) (ha : x ≠ a) (hb : x ≠ b) : i + 1 ≤ l.length ∧ ∀ z ∈ l.take (i + 1), z ≠ a ∧ z ≠ b := by
  refine ⟨(List.getElem?_eq_some_iff.1 hx).1, ?_⟩
  rw [take_snoc hx]
  intro z hz
  rcases List.mem_append.1 hz with hz | hz
  · exact h z hz
  · rw [List.mem_singleton.1 hz]; exact ⟨ha, hb⟩

theorem apart_walk {w0 w : World} {R : List Chunk} {v : Value} {ops : List LOp} (he : Els (fun w => w = w0) v 4 LOp.enc 23 ops) (hsz : ops.length < 4611686018427387904) (pid : Int) (o : LOp) (hst : St w0 w R) : Calls Try.prog 6 #[v, .int .i64 pid, o.v] w (Post0 w0 R fun u => u = .bool true) := by
  refine calls_of (args := [_, _, _]) Try.func6 rfl Try.ntmps6 hst ?_
  refine TC.seq ?_
  refine TC.region ?_
  refine TL.box rfl rfl (fun b5 => ?_)
  refine TL.p (EvP.assign rfl) ?_
  refine TL.nil ?_
  refine TX.thenN rfl rfl ?_
  refine TC.seq ?_
  refine TC.region ?_
  refine TL.p (EvP.move rfl) ?_
  refine TL.callD rfl rfl Try.call17 (fun w hs => laid_spec he hsz hs) ?_
  rintro _ C Cr D ⟨g, rr, L, rfl, hG, hR⟩
  refine TL.p (EvP.move rfl) ?_
  refine TL.p (EvP.extract rfl rfl) ?_
  refine TL.p (EvP.extract rfl rfl) ?_
  refine TL.p (EvP.assign rfl) ?_
  refine TL.p (EvP.assign rfl) ?_
  refine TL.nil ?_
  refine TX.thenN rfl rfl ?_
  refine TC.seq ?_
  refine TC.seq ?_
  refine TC.region ?_
  refine TL.p (EvP.move rfl) ?_
  refine TL.p (EvP.eqPtrNil Try.runUnderlying24 rfl rfl) ?_
  refine TL.nil ?_
  refine TX.thenN rfl rfl ?_
  refine TC.cfalse rfl ?_
  refine TC.skip ?_
  refine TX.thenN rfl rfl ?_
  refine TC.seq ?_
  refine TC.region ?_
  refine TL.p (EvP.move rfl) ?_
  refine TL.p (EvP.move rfl) ?_
  refine TL.callB rfl rfl Try.call23 (fun w hs => g_group hG pid hs) ?_
  rintro _ Cl hl
  obtain ⟨al, cl, rfl, _, _⟩ := hl.len
  have hok := hG.ok
  have hll := hok.len
  have hla := grp_len hok (p := pid)
  refine TL.p (EvP.assign rfl) ?_
  refine TL.nil ?_
  refine TX.thenN rfl rfl ?_
  refine TC.seq ?_
  refine TC.seq ?_
  refine TC.region ?_
  refine TL.p (EvP.fa (e := 0) rfl Try.runUnderlying23 rfl Try.sizeOf3 rfl) ?_
  refine TL.r (EvR.load rfl Try.isAgg3 (AtB.own (by repeat (first | exact Has.hd | refine Has.tlb ?_ | refine Has.tlc ?_))) (by rfl)) ?_
  refine TL.dec (EvP.lt rfl rfl) (fun h25 => ?_) (fun h25 => ?_)
  · refine TL.p (EvP.move rfl) ?_
    refine TL.gN rfl rfl rfl ?_
    refine TL.gN rfl rfl rfl ?_
    refine TL.gN rfl rfl rfl ?_
    refine TL.p (EvP.pickT rfl rfl) ?_
    refine TL.nil ?_
    refine TX.thenN rfl rfl ?_
    refine TC.ctrue rfl ?_
    refine TC.region ?_
    refine TL.p (EvP.fa (e := 0) rfl Try.runUnderlying23 rfl Try.sizeOf3 rfl) ?_
    refine TL.u (EvU.store rfl rfl Try.sizeOf3 rfl rfl rfl rfl (by repeat (first | exact Has.hd | refine Has.tlb ?_ | refine Has.tlc ?_)) (by repeat (first | exact SetLs.nil | exact SetL.here | apply SetLs.cons | apply SetL.there)) (by repeat (first | exact Upd.hd | apply Upd.tlb | apply Upd.tlc))) ?_
    refine TL.nil ?_
    refine TX.thenN rfl rfl ?_
    refine TC.seq ?_
    refine TC.seq ?_
    refine TC.region ?_
    refine TL.p (EvP.move rfl) ?_
    refine TL.p (EvP.lenS Try.runUnderlying50 rfl) ?_
    refine TL.p (EvP.move rfl) ?_
    refine TL.nil ?_
    refine TX.thenN rfl rfl ?_
    refine TC.block ?_
    refine TC.loop (ι := Nat) (fun i => [(32, .slice al (grp L pid).length cl), (33, .int .i64 (grp L pid).length), (34, .int .i64 i), (5, .pointer (some ⟨b5, 0, none⟩)), (7, .pointer (some ⟨g, 0, none⟩)), (8, .pointer (some ⟨rr, 0, none⟩)), (1, .int .i64 pid), (9, .slice al (grp L pid).length cl), (6, .bool false)]) (fun i => [(b5, .cells (LOp.enc (⟨0, o.a, o.b, o.r⟩ : LOp)).toArray 23 (0, 0))] :: Cl :: C :: Cr :: D :: R) (fun i => i ≤ (grp L pid).length ∧ ∀ z ∈ (grp L pid).take i, z ≠ o.a ∧ z ≠ o.b) (fun i => (grp L pid).length - i) (0) (⟨Nat.zero_le _, by simp⟩) ⟨rfl, rfl, rfl, rfl, rfl, rfl, rfl, rfl, rfl, trivial⟩ (by repeat (first | exact Le.refl _ | exact Le.nil _ | refine Le.hit ?_ | refine Le.hit1 ?_ | refine Le.hit2 ?_ | refine Le.hit3 ?_ | refine Le.hit4 ?_ | refine Le.hit5 ?_ | refine Le.hit6 ?_ | refine Le.hit7 ?_ | refine Le.hit8 ?_ | refine Le.hit9 ?_ | refine Le.hit10 ?_ | refine Le.skip ?_)) ?_
    rintro i ⟨hi, hoff0⟩
    change TC _ _ [(32, .slice al (grp L pid).length cl), (33, .int .i64 (grp L pid).length), (34, .int .i64 i), (5, .pointer (some ⟨b5, 0, none⟩)), (7, .pointer (some ⟨g, 0, none⟩)), (8, .pointer (some ⟨rr, 0, none⟩)), (1, .int .i64 pid), (9, .slice al (grp L pid).length cl), (6, .bool false)] ([(b5, .cells (LOp.enc (⟨0, o.a, o.b, o.r⟩ : LOp)).toArray 23 (0, 0))] :: Cl :: C :: Cr :: D :: R) _
    refine TC.seq ?_
    refine TC.region ?_
    refine TL.dec (EvP.lt rfl rfl) (fun h35 => ?_) (fun h35 => ?_)
    · refine TL.nil ?_
      refine TX.thenN rfl rfl ?_
      refine TC.seq ?_
      refine TC.ctrue rfl ?_
      refine TC.skip ?_
      refine TX.thenN rfl rfl ?_
      refine TC.seq ?_
      refine TC.block ?_
      refine TC.seq ?_
      refine TC.region ?_
      have hlt : i < (grp L pid).length := by omega
      obtain ⟨x, hx⟩ : ∃ x, (grp L pid)[i]? = some x := ⟨_, List.getElem?_eq_getElem hlt⟩
      refine TL.elem (hl.el encI_ok (j := i) (x := x) hx (by simp)) Try.runUnderlying50 Try.sizeOf2 rfl rfl (fun bE oE lE _ _ hE hcE => ?_)
      refine TL.r (EvR.load rfl Try.isAgg2 hE hcE.1) ?_
      refine TL.p (EvP.assign rfl) ?_
      refine TL.nil ?_
      refine TX.thenN rfl rfl ?_
      refine TC.seq ?_
      refine TC.region ?_
      refine TL.p (EvP.move rfl) ?_
      refine TL.p (EvP.fa (e := 1) rfl Try.runUnderlying23 rfl Try.sizeOf2 rfl) ?_
      refine TL.r (EvR.load rfl Try.isAgg2 (AtB.own (by repeat (first | exact Has.hd | refine Has.tlb ?_ | refine Has.tlc ?_))) (by rfl)) ?_
      refine TL.dec (EvP.eq rfl rfl) (fun h41 => ?_) (fun h41 => ?_)
      · refine TL.p (EvP.move rfl) ?_
        refine TL.gN rfl rfl rfl ?_
        refine TL.gN rfl rfl rfl ?_
        refine TL.gN rfl rfl rfl ?_
        refine TL.gN rfl rfl rfl ?_
        refine TL.p (EvP.pickT rfl rfl) ?_
        refine TL.nil ?_
        refine TX.thenN rfl rfl ?_
        refine TC.ctrue rfl ?_
        refine TC.seq ?_
        refine TC.region ?_
        refine TL.callA rfl rfl Try.call16 (fun w hs => awake_spec hs) ?_
        rintro _ rfl
        refine TL.p (EvP.assign rfl) ?_
        refine TL.nil ?_
        refine TX.thenN rfl rfl ?_
        refine TC.ret ?_
        refine TX.blkR ?_
        refine TX.thenR ?_
        refine TX.thenR ?_
        refine TX.blkR ?_
        refine TX.thenR ?_
        refine TX.done rfl (Res.one rfl rfl) (fun w hs => Post0.mk hs ?_ (by repeat (first | exact Le.refl _ | exact Le.nil _ | refine Le.hit ?_ | refine Le.hit1 ?_ | refine Le.hit2 ?_ | refine Le.hit3 ?_ | refine Le.hit4 ?_ | refine Le.hit5 ?_ | refine Le.hit6 ?_ | refine Le.hit7 ?_ | refine Le.hit8 ?_ | refine Le.hit9 ?_ | refine Le.hit10 ?_ | refine Le.skip ?_)))
        rfl
      · refine TL.p (EvP.move rfl) ?_
        refine TL.gY rfl rfl rfl ?_
        refine TL.p (EvP.move rfl) ?_
        refine TL.gY rfl rfl rfl ?_
        refine TL.p (EvP.fa (e := 2) rfl Try.runUnderlying23 rfl Try.sizeOf2 rfl) ?_
        refine TL.gY rfl rfl rfl ?_
        refine TL.r (EvR.load rfl Try.isAgg2 (AtB.own (by repeat (first | exact Has.hd | refine Has.tlb ?_ | refine Has.tlc ?_))) (by rfl)) ?_
        refine TL.gY rfl rfl rfl ?_
        refine TL.dec (EvP.eq rfl rfl) (fun h46 => ?_) (fun h46 => ?_)
        · refine TL.p (EvP.pickF rfl rfl) ?_
          refine TL.nil ?_
          refine TX.thenN rfl rfl ?_
          refine TC.ctrue rfl ?_
          refine TC.seq ?_
          refine TC.region ?_
          refine TL.callA rfl rfl Try.call16 (fun w hs => awake_spec hs) ?_
          rintro _ rfl
          refine TL.p (EvP.assign rfl) ?_
          refine TL.nil ?_
          refine TX.thenN rfl rfl ?_
          refine TC.ret ?_
          refine TX.blkR ?_
          refine TX.thenR ?_
          refine TX.thenR ?_
          refine TX.blkR ?_
          refine TX.thenR ?_
          refine TX.done rfl (Res.one rfl rfl) (fun w hs => Post0.mk hs ?_ (by repeat (first | exact Le.refl _ | exact Le.nil _ | refine Le.hit ?_ | refine Le.hit1 ?_ | refine Le.hit2 ?_ | refine Le.hit3 ?_ | refine Le.hit4 ?_ | refine Le.hit5 ?_ | refine Le.hit6 ?_ | refine Le.hit7 ?_ | refine Le.hit8 ?_ | refine Le.hit9 ?_ | refine Le.hit10 ?_ | refine Le.skip ?_)))
          rfl
        · refine TL.p (EvP.pickF rfl rfl) ?_
          refine TL.nil ?_
          refine TX.thenN rfl rfl ?_
          refine TC.cfalse rfl ?_
          refine TC.skip ?_
          refine TX.blkN ?_
          refine TX.thenN rfl rfl ?_
          refine TC.region ?_
          refine TL.p (EvP.add rfl rfl (by omega)) ?_
          refine TL.p (EvP.move rfl) ?_
          refine TL.nil ?_
          refine TX.back (i + 1) (apart_step hx hi hoff0 (by simp_all) (by simp_all)) (by omega) ⟨rfl, rfl, rfl, rfl, rfl, rfl, rfl, rfl, rfl, trivial⟩ (by repeat (first | exact Le.refl _ | exact Le.nil _ | refine Le.hit ?_ | refine Le.hit1 ?_ | refine Le.hit2 ?_ | refine Le.hit3 ?_ | refine Le.hit4 ?_ | refine Le.hit5 ?_ | refine Le.hit6 ?_ | refine Le.hit7 ?_ | refine Le.hit8 ?_ | refine Le.hit9 ?_ | refine Le.hit10 ?_ | refine Le.skip ?_))
    · refine TL.nil ?_
      refine TX.thenN rfl rfl ?_
      refine TC.seq ?_
      refine TC.cfalse rfl ?_
      refine TC.exit ?_
      refine TX.thenE ?_
      refine TX.thenE ?_
      refine TX.blkH ?_
      refine TX.thenN rfl rfl ?_
      refine TC.seq ?_
      refine TC.region ?_
      refine TL.p (EvP.move rfl) ?_
      refine TL.p (EvP.move rfl) ?_
      have hi3 : i = (grp L pid).length := by omega
      subst hi3
      rw [List.take_length] at hoff0
      have hoff : ∀ z ∈ grp L pid, z ≠ o.a ∧ z ≠ o.b := hoff0
      refine TL.le (Le.hit3 (Le.hit3 (Le.refl _))) ?_
      refine TL.callB rfl rfl Try.call18 (fun w hs => r_of hR hll pid hs) ?_
      rintro _ CW hw
      refine TL.p (EvP.assign rfl) ?_
      refine TL.nil ?_
      refine TX.thenN rfl rfl ?_
      refine TC.seq ?_
      refine TC.seq ?_
      refine TC.region ?_
      refine TL.p (EvP.move rfl) ?_
      refine TL.p (EvP.move rfl) ?_
      refine TL.r (EvR.loadN (vs := [_, _, _, _]) rfl Try.isAgg23 Try.sizeOf23 (AtB.own (by repeat (first | exact Has.hd | refine Has.tlb ?_ | refine Has.tlc ?_))) (by exact ⟨rfl, rfl, rfl, rfl,  trivial⟩)) ?_
      have hk01 : (⟨0, o.a, o.b, o.r⟩ : LOp).k = 0 ∨ (⟨0, o.a, o.b, o.r⟩ : LOp).k = 1 := by exact .inl rfl
      replace hoff : ∀ z ∈ grp L pid, z ≠ LOp.a (⟨0, o.a, o.b, o.r⟩ : LOp) ∧ z ≠ LOp.b (⟨0, o.a, o.b, o.r⟩ : LOp) := hoff
      refine TL.le (Le.hit5 (Le.hit1 (Le.hit1 (Le.refl _)))) ?_
      refine TL.callD rfl rfl Try.call13 (fun w hs => step_spec hG (by omega) hR (⟨0, o.a, o.b, o.r⟩ : LOp) hs) ?_
      rintro _ C2 Cr2 D2 ⟨rfl, hG2, hR2⟩
      refine TL.p (EvP.not rfl) ?_
      refine TL.nil ?_
      refine TX.thenN rfl rfl ?_
      refine TC.cfalse rfl ?_
      refine TC.skip ?_
      refine TX.thenN rfl rfl ?_
      refine TC.seq ?_
      refine TC.region ?_
      refine TL.p (EvP.move rfl) ?_
      refine TL.p (EvP.move rfl) ?_
      refine TL.callB rfl rfl Try.call23 (fun w hs => g_group hG2 pid hs) ?_
      rintro _ Cx hgx
      rw [apart_grp hok hG2.ok hk01 hoff] at hgx
      refine TL.p (EvP.move rfl) ?_
      refine TL.callA rfl rfl Try.call24 (fun w hs => pids_spec (hgx.els encI_ok (by simp)) (hl.els encI_ok (by simp)) (by omega) hs) ?_
      rintro _ rfl
      refine TL.p (EvP.move rfl) ?_
      refine TL.gY rfl rfl rfl ?_
      refine TL.p (EvP.move rfl) ?_
      refine TL.gY rfl rfl rfl ?_
      refine TL.p (EvP.fa (e := 1) rfl Try.runUnderlying23 rfl Try.sizeOf2 rfl) ?_
      refine TL.gY rfl rfl rfl ?_
      refine TL.r (EvR.load rfl Try.isAgg2 (AtB.own (by repeat (first | exact Has.hd | refine Has.tlb ?_ | refine Has.tlc ?_))) (by rfl)) ?_
      refine TL.gY rfl rfl rfl ?_
      refine TL.dec (EvP.eq rfl rfl) (fun h67 => ?_) (fun h67 => ?_)
      · refine TL.gY rfl rfl rfl ?_
        refine TL.p (EvP.move rfl) ?_
        refine TL.gN rfl rfl rfl ?_
        refine TL.gN rfl rfl rfl ?_
        refine TL.gN rfl rfl rfl ?_
        refine TL.gN rfl rfl rfl ?_
        refine TL.gY rfl rfl rfl ?_
        refine TL.p (EvP.pickT rfl rfl) ?_
        refine TL.gY rfl rfl rfl ?_
        refine TL.p (EvP.move rfl) ?_
        refine TL.gN rfl rfl rfl ?_
        refine TL.gN rfl rfl rfl ?_
        refine TL.gN rfl rfl rfl ?_
        refine TL.gN rfl rfl rfl ?_
        refine TL.gN rfl rfl rfl ?_
        refine TL.gY rfl rfl rfl ?_
        refine TL.p (EvP.pickT rfl rfl) ?_
        refine TL.p (EvP.pickT rfl rfl) ?_
        refine TL.p (EvP.move rfl) ?_
        refine TL.gY rfl rfl rfl ?_
        refine TL.callA rfl rfl Try.call16 (fun w hs => awake_spec hs) ?_
        rintro _ rfl
        refine TL.p (EvP.pickT rfl rfl) ?_
        refine TL.p (EvP.assign rfl) ?_
        refine TL.nil ?_
        refine TX.thenN rfl rfl ?_
        refine TC.ret ?_
        refine TX.done rfl (Res.one rfl rfl) (fun w hs => Post0.mk hs ?_ (by repeat (first | exact Le.refl _ | exact Le.nil _ | refine Le.hit ?_ | refine Le.hit1 ?_ | refine Le.hit2 ?_ | refine Le.hit3 ?_ | refine Le.hit4 ?_ | refine Le.hit5 ?_ | refine Le.hit6 ?_ | refine Le.hit7 ?_ | refine Le.hit8 ?_ | refine Le.hit9 ?_ | refine Le.hit10 ?_ | refine Le.skip ?_)))
        rfl
      · refine TL.gY rfl rfl rfl ?_
        refine TL.p (EvP.move rfl) ?_
        refine TL.gY rfl rfl rfl ?_
        refine TL.p (EvP.move rfl) ?_
        refine TL.gY rfl rfl rfl ?_
        refine TL.p (EvP.fa (e := 2) rfl Try.runUnderlying23 rfl Try.sizeOf2 rfl) ?_
        refine TL.gY rfl rfl rfl ?_
        refine TL.r (EvR.load rfl Try.isAgg2 (AtB.own (by repeat (first | exact Has.hd | refine Has.tlb ?_ | refine Has.tlc ?_))) (by rfl)) ?_
        refine TL.gY rfl rfl rfl ?_
        refine TL.dec (EvP.eq rfl rfl) (fun h72 => ?_) (fun h72 => ?_)
        · refine TL.gY rfl rfl rfl ?_
          refine TL.p (EvP.pickF rfl rfl) ?_
          refine TL.gY rfl rfl rfl ?_
          refine TL.p (EvP.move rfl) ?_
          refine TL.gN rfl rfl rfl ?_
          refine TL.gN rfl rfl rfl ?_
          refine TL.gN rfl rfl rfl ?_
          refine TL.gN rfl rfl rfl ?_
          refine TL.gN rfl rfl rfl ?_
          refine TL.gY rfl rfl rfl ?_
          refine TL.p (EvP.pickT rfl rfl) ?_
          refine TL.p (EvP.pickT rfl rfl) ?_
          refine TL.p (EvP.move rfl) ?_
          refine TL.gY rfl rfl rfl ?_
          refine TL.callA rfl rfl Try.call16 (fun w hs => awake_spec hs) ?_
          rintro _ rfl
          refine TL.p (EvP.pickT rfl rfl) ?_
          refine TL.p (EvP.assign rfl) ?_
          refine TL.nil ?_
          refine TX.thenN rfl rfl ?_
          refine TC.ret ?_
          refine TX.done rfl (Res.one rfl rfl) (fun w hs => Post0.mk hs ?_ (by repeat (first | exact Le.refl _ | exact Le.nil _ | refine Le.hit ?_ | refine Le.hit1 ?_ | refine Le.hit2 ?_ | refine Le.hit3 ?_ | refine Le.hit4 ?_ | refine Le.hit5 ?_ | refine Le.hit6 ?_ | refine Le.hit7 ?_ | refine Le.hit8 ?_ | refine Le.hit9 ?_ | refine Le.hit10 ?_ | refine Le.skip ?_)))
          rfl
        · refine TL.gY rfl rfl rfl ?_
          refine TL.p (EvP.pickF rfl rfl) ?_
          refine TL.gY rfl rfl rfl ?_
          refine TL.p (EvP.move rfl) ?_
          refine TL.gY rfl rfl rfl ?_
          refine TL.p (EvP.move rfl) ?_
          refine TL.gY rfl rfl rfl ?_
          refine TL.p (EvP.move rfl) ?_
          refine TL.gY rfl rfl rfl ?_
          refine TL.le (Le.hit1 (Le.refl _)) ?_
          refine TL.callB rfl rfl Try.call21 (fun w hs => g_of hG2 (pid := pid) (most := 2048) (by omega) hs) ?_
          rintro _ CO ho
          rw [apart_of hok hk01 (by simp_all) (by simp_all)] at ho
          have hol : (ofL L pid).length ≤ 1024 := Nat.le_trans (List.length_filter_le _ _) hll
          rw [List.take_of_length_le (by show (ofL L pid).length ≤ 2048; omega)] at ho
          refine TL.gY rfl rfl rfl ?_
          refine TL.p (EvP.move rfl) ?_
          refine TL.gY rfl rfl rfl ?_
          refine TL.callA rfl rfl Try.call14 (fun w hs => bonds_spec (ho.els encB_ok (by simp)) (hw.els encB_ok (by simp)) (by omega) hs) ?_
          rintro _ rfl
          refine TL.gY rfl rfl rfl ?_
          refine TL.p (EvP.pickF rfl rfl) ?_
          refine TL.p (EvP.pickT rfl rfl) ?_
          refine TL.p (EvP.move rfl) ?_
          refine TL.gY rfl rfl rfl ?_
          refine TL.callA rfl rfl Try.call16 (fun w hs => awake_spec hs) ?_
          rintro _ rfl
          refine TL.p (EvP.pickT rfl rfl) ?_
          refine TL.p (EvP.assign rfl) ?_
          refine TL.nil ?_
          refine TX.thenN rfl rfl ?_
          refine TC.ret ?_
          refine TX.done rfl (Res.one rfl rfl) (fun w hs => Post0.mk hs ?_ (by repeat (first | exact Le.refl _ | exact Le.nil _ | refine Le.hit ?_ | refine Le.hit1 ?_ | refine Le.hit2 ?_ | refine Le.hit3 ?_ | refine Le.hit4 ?_ | refine Le.hit5 ?_ | refine Le.hit6 ?_ | refine Le.hit7 ?_ | refine Le.hit8 ?_ | refine Le.hit9 ?_ | refine Le.hit10 ?_ | refine Le.skip ?_)))
          rfl
  · refine TL.p (EvP.move rfl) ?_
    refine TL.gY rfl rfl rfl ?_
    refine TL.p (EvP.fa (e := 0) rfl Try.runUnderlying23 rfl Try.sizeOf3 rfl) ?_
    refine TL.gY rfl rfl rfl ?_
    refine TL.r (EvR.load rfl Try.isAgg3 (AtB.own (by repeat (first | exact Has.hd | refine Has.tlb ?_ | refine Has.tlc ?_))) (by rfl)) ?_
    refine TL.gY rfl rfl rfl ?_
    refine TL.dec (EvP.gt rfl rfl) (fun h29 => ?_) (fun h29 => ?_)
    · refine TL.p (EvP.pickF rfl rfl) ?_
      refine TL.nil ?_
      refine TX.thenN rfl rfl ?_
      refine TC.ctrue rfl ?_
      refine TC.region ?_
      refine TL.p (EvP.fa (e := 0) rfl Try.runUnderlying23 rfl Try.sizeOf3 rfl) ?_
      refine TL.u (EvU.store rfl rfl Try.sizeOf3 rfl rfl rfl rfl (by repeat (first | exact Has.hd | refine Has.tlb ?_ | refine Has.tlc ?_)) (by repeat (first | exact SetLs.nil | exact SetL.here | apply SetLs.cons | apply SetL.there)) (by repeat (first | exact Upd.hd | apply Upd.tlb | apply Upd.tlc))) ?_
      refine TL.nil ?_
      refine TX.thenN rfl rfl ?_
      refine TC.seq ?_
      refine TC.seq ?_
      refine TC.region ?_
      refine TL.p (EvP.move rfl) ?_
      refine TL.p (EvP.lenS Try.runUnderlying50 rfl) ?_
      refine TL.p (EvP.move rfl) ?_
      refine TL.nil ?_
      refine TX.thenN rfl rfl ?_
      refine TC.block ?_
      refine TC.loop (ι := Nat) (fun i => [(32, .slice al (grp L pid).length cl), (33, .int .i64 (grp L pid).length), (34, .int .i64 i), (5, .pointer (some ⟨b5, 0, none⟩)), (7, .pointer (some ⟨g, 0, none⟩)), (8, .pointer (some ⟨rr, 0, none⟩)), (1, .int .i64 pid), (9, .slice al (grp L pid).length cl), (6, .bool false)]) (fun i => [(b5, .cells (LOp.enc (⟨0, o.a, o.b, o.r⟩ : LOp)).toArray 23 (0, 0))] :: Cl :: C :: Cr :: D :: R) (fun i => i ≤ (grp L pid).length ∧ ∀ z ∈ (grp L pid).take i, z ≠ o.a ∧ z ≠ o.b) (fun i => (grp L pid).length - i) (0) (⟨Nat.zero_le _, by simp⟩) ⟨rfl, rfl, rfl, rfl, rfl, rfl, rfl, rfl, rfl, trivial⟩ (by repeat (first | exact Le.refl _ | exact Le.nil _ | refine Le.hit ?_ | refine Le.hit1 ?_ | refine Le.hit2 ?_ | refine Le.hit3 ?_ | refine Le.hit4 ?_ | refine Le.hit5 ?_ | refine Le.hit6 ?_ | refine Le.hit7 ?_ | refine Le.hit8 ?_ | refine Le.hit9 ?_ | refine Le.hit10 ?_ | refine Le.skip ?_)) ?_
      rintro i ⟨hi, hoff0⟩
      change TC _ _ [(32, .slice al (grp L pid).length cl), (33, .int .i64 (grp L pid).length), (34, .int .i64 i), (5, .pointer (some ⟨b5, 0, none⟩)), (7, .pointer (some ⟨g, 0, none⟩)), (8, .pointer (some ⟨rr, 0, none⟩)), (1, .int .i64 pid), (9, .slice al (grp L pid).length cl), (6, .bool false)] ([(b5, .cells (LOp.enc (⟨0, o.a, o.b, o.r⟩ : LOp)).toArray 23 (0, 0))] :: Cl :: C :: Cr :: D :: R) _
      refine TC.seq ?_
      refine TC.region ?_
      refine TL.dec (EvP.lt rfl rfl) (fun h35 => ?_) (fun h35 => ?_)
      · refine TL.nil ?_
        refine TX.thenN rfl rfl ?_
        refine TC.seq ?_
        refine TC.ctrue rfl ?_
        refine TC.skip ?_
        refine TX.thenN rfl rfl ?_
        refine TC.seq ?_
        refine TC.block ?_
        refine TC.seq ?_
        refine TC.region ?_
        have hlt : i < (grp L pid).length := by omega
        obtain ⟨x, hx⟩ : ∃ x, (grp L pid)[i]? = some x := ⟨_, List.getElem?_eq_getElem hlt⟩
        refine TL.elem (hl.el encI_ok (j := i) (x := x) hx (by simp)) Try.runUnderlying50 Try.sizeOf2 rfl rfl (fun bE oE lE _ _ hE hcE => ?_)
        refine TL.r (EvR.load rfl Try.isAgg2 hE hcE.1) ?_
        refine TL.p (EvP.assign rfl) ?_
        refine TL.nil ?_
        refine TX.thenN rfl rfl ?_
        refine TC.seq ?_
        refine TC.region ?_
        refine TL.p (EvP.move rfl) ?_
        refine TL.p (EvP.fa (e := 1) rfl Try.runUnderlying23 rfl Try.sizeOf2 rfl) ?_
        refine TL.r (EvR.load rfl Try.isAgg2 (AtB.own (by repeat (first | exact Has.hd | refine Has.tlb ?_ | refine Has.tlc ?_))) (by rfl)) ?_
        refine TL.dec (EvP.eq rfl rfl) (fun h41 => ?_) (fun h41 => ?_)
        · refine TL.p (EvP.move rfl) ?_
          refine TL.gN rfl rfl rfl ?_
          refine TL.gN rfl rfl rfl ?_
          refine TL.gN rfl rfl rfl ?_
          refine TL.gN rfl rfl rfl ?_
          refine TL.p (EvP.pickT rfl rfl) ?_
          refine TL.nil ?_
          refine TX.thenN rfl rfl ?_
          refine TC.ctrue rfl ?_
          refine TC.seq ?_
          refine TC.region ?_
          refine TL.callA rfl rfl Try.call16 (fun w hs => awake_spec hs) ?_
          rintro _ rfl
          refine TL.p (EvP.assign rfl) ?_
          refine TL.nil ?_
          refine TX.thenN rfl rfl ?_
          refine TC.ret ?_
          refine TX.blkR ?_
          refine TX.thenR ?_
          refine TX.thenR ?_
          refine TX.blkR ?_
          refine TX.thenR ?_
          refine TX.done rfl (Res.one rfl rfl) (fun w hs => Post0.mk hs ?_ (by repeat (first | exact Le.refl _ | exact Le.nil _ | refine Le.hit ?_ | refine Le.hit1 ?_ | refine Le.hit2 ?_ | refine Le.hit3 ?_ | refine Le.hit4 ?_ | refine Le.hit5 ?_ | refine Le.hit6 ?_ | refine Le.hit7 ?_ | refine Le.hit8 ?_ | refine Le.hit9 ?_ | refine Le.hit10 ?_ | refine Le.skip ?_)))
          rfl
        · refine TL.p (EvP.move rfl) ?_
          refine TL.gY rfl rfl rfl ?_
          refine TL.p (EvP.move rfl) ?_
          refine TL.gY rfl rfl rfl ?_
          refine TL.p (EvP.fa (e := 2) rfl Try.runUnderlying23 rfl Try.sizeOf2 rfl) ?_
          refine TL.gY rfl rfl rfl ?_
          refine TL.r (EvR.load rfl Try.isAgg2 (AtB.own (by repeat (first | exact Has.hd | refine Has.tlb ?_ | refine Has.tlc ?_))) (by rfl)) ?_
          refine TL.gY rfl rfl rfl ?_
          refine TL.dec (EvP.eq rfl rfl) (fun h46 => ?_) (fun h46 => ?_)
          · refine TL.p (EvP.pickF rfl rfl) ?_
            refine TL.nil ?_
            refine TX.thenN rfl rfl ?_
            refine TC.ctrue rfl ?_
            refine TC.seq ?_
            refine TC.region ?_
            refine TL.callA rfl rfl Try.call16 (fun w hs => awake_spec hs) ?_
            rintro _ rfl
            refine TL.p (EvP.assign rfl) ?_
            refine TL.nil ?_
            refine TX.thenN rfl rfl ?_
            refine TC.ret ?_
            refine TX.blkR ?_
            refine TX.thenR ?_
            refine TX.thenR ?_
            refine TX.blkR ?_
            refine TX.thenR ?_
            refine TX.done rfl (Res.one rfl rfl) (fun w hs => Post0.mk hs ?_ (by repeat (first | exact Le.refl _ | exact Le.nil _ | refine Le.hit ?_ | refine Le.hit1 ?_ | refine Le.hit2 ?_ | refine Le.hit3 ?_ | refine Le.hit4 ?_ | refine Le.hit5 ?_ | refine Le.hit6 ?_ | refine Le.hit7 ?_ | refine Le.hit8 ?_ | refine Le.hit9 ?_ | refine Le.hit10 ?_ | refine Le.skip ?_)))
            rfl
          · refine TL.p (EvP.pickF rfl rfl) ?_
            refine TL.nil ?_
            refine TX.thenN rfl rfl ?_
            refine TC.cfalse rfl ?_
            refine TC.skip ?_
            refine TX.blkN ?_
            refine TX.thenN rfl rfl ?_
            refine TC.region ?_
            refine TL.p (EvP.add rfl rfl (by omega)) ?_
            refine TL.p (EvP.move rfl) ?_
            refine TL.nil ?_
            refine TX.back (i + 1) (apart_step hx hi hoff0 (by simp_all) (by simp_all)) (by omega) ⟨rfl, rfl, rfl, rfl, rfl, rfl, rfl, rfl, rfl, trivial⟩ (by repeat (first | exact Le.refl _ | exact Le.nil _ | refine Le.hit ?_ | refine Le.hit1 ?_ | refine Le.hit2 ?_ | refine Le.hit3 ?_ | refine Le.hit4 ?_ | refine Le.hit5 ?_ | refine Le.hit6 ?_ | refine Le.hit7 ?_ | refine Le.hit8 ?_ | refine Le.hit9 ?_ | refine Le.hit10 ?_ | refine Le.skip ?_))
      · refine TL.nil ?_
        refine TX.thenN rfl rfl ?_
        refine TC.seq ?_
        refine TC.cfalse rfl ?_
        refine TC.exit ?_
        refine TX.thenE ?_
        refine TX.thenE ?_
        refine TX.blkH ?_
        refine TX.thenN rfl rfl ?_
        refine TC.seq ?_
        refine TC.region ?_
        refine TL.p (EvP.move rfl) ?_
        refine TL.p (EvP.move rfl) ?_
        have hi3 : i = (grp L pid).length := by omega
        subst hi3
        rw [List.take_length] at hoff0
        have hoff : ∀ z ∈ grp L pid, z ≠ o.a ∧ z ≠ o.b := hoff0
        refine TL.le (Le.hit3 (Le.hit3 (Le.refl _))) ?_
        refine TL.callB rfl rfl Try.call18 (fun w hs => r_of hR hll pid hs) ?_
        rintro _ CW hw
        refine TL.p (EvP.assign rfl) ?_
        refine TL.nil ?_
        refine TX.thenN rfl rfl ?_
        refine TC.seq ?_
        refine TC.seq ?_
        refine TC.region ?_
        refine TL.p (EvP.move rfl) ?_
        refine TL.p (EvP.move rfl) ?_
        refine TL.r (EvR.loadN (vs := [_, _, _, _]) rfl Try.isAgg23 Try.sizeOf23 (AtB.own (by repeat (first | exact Has.hd | refine Has.tlb ?_ | refine Has.tlc ?_))) (by exact ⟨rfl, rfl, rfl, rfl,  trivial⟩)) ?_
        have hk01 : (⟨0, o.a, o.b, o.r⟩ : LOp).k = 0 ∨ (⟨0, o.a, o.b, o.r⟩ : LOp).k = 1 := by exact .inl rfl
        replace hoff : ∀ z ∈ grp L pid, z ≠ LOp.a (⟨0, o.a, o.b, o.r⟩ : LOp) ∧ z ≠ LOp.b (⟨0, o.a, o.b, o.r⟩ : LOp) := hoff
        refine TL.le (Le.hit5 (Le.hit1 (Le.hit1 (Le.refl _)))) ?_
        refine TL.callD rfl rfl Try.call13 (fun w hs => step_spec hG (by omega) hR (⟨0, o.a, o.b, o.r⟩ : LOp) hs) ?_
        rintro _ C2 Cr2 D2 ⟨rfl, hG2, hR2⟩
        refine TL.p (EvP.not rfl) ?_
        refine TL.nil ?_
        refine TX.thenN rfl rfl ?_
        refine TC.cfalse rfl ?_
        refine TC.skip ?_
        refine TX.thenN rfl rfl ?_
        refine TC.seq ?_
        refine TC.region ?_
        refine TL.p (EvP.move rfl) ?_
        refine TL.p (EvP.move rfl) ?_
        refine TL.callB rfl rfl Try.call23 (fun w hs => g_group hG2 pid hs) ?_
        rintro _ Cx hgx
        rw [apart_grp hok hG2.ok hk01 hoff] at hgx
        refine TL.p (EvP.move rfl) ?_
        refine TL.callA rfl rfl Try.call24 (fun w hs => pids_spec (hgx.els encI_ok (by simp)) (hl.els encI_ok (by simp)) (by omega) hs) ?_
        rintro _ rfl
        refine TL.p (EvP.move rfl) ?_
        refine TL.gY rfl rfl rfl ?_
        refine TL.p (EvP.move rfl) ?_
        refine TL.gY rfl rfl rfl ?_
        refine TL.p (EvP.fa (e := 1) rfl Try.runUnderlying23 rfl Try.sizeOf2 rfl) ?_
        refine TL.gY rfl rfl rfl ?_
        refine TL.r (EvR.load rfl Try.isAgg2 (AtB.own (by repeat (first | exact Has.hd | refine Has.tlb ?_ | refine Has.tlc ?_))) (by rfl)) ?_
        refine TL.gY rfl rfl rfl ?_
        refine TL.dec (EvP.eq rfl rfl) (fun h67 => ?_) (fun h67 => ?_)
        · refine TL.gY rfl rfl rfl ?_
          refine TL.p (EvP.move rfl) ?_
          refine TL.gN rfl rfl rfl ?_
          refine TL.gN rfl rfl rfl ?_
          refine TL.gN rfl rfl rfl ?_
          refine TL.gN rfl rfl rfl ?_
          refine TL.gY rfl rfl rfl ?_
          refine TL.p (EvP.pickT rfl rfl) ?_
          refine TL.gY rfl rfl rfl ?_
          refine TL.p (EvP.move rfl) ?_
          refine TL.gN rfl rfl rfl ?_
          refine TL.gN rfl rfl rfl ?_
          refine TL.gN rfl rfl rfl ?_
          refine TL.gN rfl rfl rfl ?_
          refine TL.gN rfl rfl rfl ?_
          refine TL.gY rfl rfl rfl ?_
          refine TL.p (EvP.pickT rfl rfl) ?_
          refine TL.p (EvP.pickT rfl rfl) ?_
          refine TL.p (EvP.move rfl) ?_
          refine TL.gY rfl rfl rfl ?_
          refine TL.callA rfl rfl Try.call16 (fun w hs => awake_spec hs) ?_
          rintro _ rfl
          refine TL.p (EvP.pickT rfl rfl) ?_
          refine TL.p (EvP.assign rfl) ?_
          refine TL.nil ?_
          refine TX.thenN rfl rfl ?_
          refine TC.ret ?_
          refine TX.done rfl (Res.one rfl rfl) (fun w hs => Post0.mk hs ?_ (by repeat (first | exact Le.refl _ | exact Le.nil _ | refine Le.hit ?_ | refine Le.hit1 ?_ | refine Le.hit2 ?_ | refine Le.hit3 ?_ | refine Le.hit4 ?_ | refine Le.hit5 ?_ | refine Le.hit6 ?_ | refine Le.hit7 ?_ | refine Le.hit8 ?_ | refine Le.hit9 ?_ | refine Le.hit10 ?_ | refine Le.skip ?_)))
          rfl
        · refine TL.gY rfl rfl rfl ?_
          refine TL.p (EvP.move rfl) ?_
          refine TL.gY rfl rfl rfl ?_
          refine TL.p (EvP.move rfl) ?_
          refine TL.gY rfl rfl rfl ?_
          refine TL.p (EvP.fa (e := 2) rfl Try.runUnderlying23 rfl Try.sizeOf2 rfl) ?_
          refine TL.gY rfl rfl rfl ?_
          refine TL.r (EvR.load rfl Try.isAgg2 (AtB.own (by repeat (first | exact Has.hd | refine Has.tlb ?_ | refine Has.tlc ?_))) (by rfl)) ?_
          refine TL.gY rfl rfl rfl ?_
          refine TL.dec (EvP.eq rfl rfl) (fun h72 => ?_) (fun h72 => ?_)
          · refine TL.gY rfl rfl rfl ?_
            refine TL.p (EvP.pickF rfl rfl) ?_
            refine TL.gY rfl rfl rfl ?_
            refine TL.p (EvP.move rfl) ?_
            refine TL.gN rfl rfl rfl ?_
            refine TL.gN rfl rfl rfl ?_
            refine TL.gN rfl rfl rfl ?_
            refine TL.gN rfl rfl rfl ?_
            refine TL.gN rfl rfl rfl ?_
            refine TL.gY rfl rfl rfl ?_
            refine TL.p (EvP.pickT rfl rfl) ?_
            refine TL.p (EvP.pickT rfl rfl) ?_
            refine TL.p (EvP.move rfl) ?_
            refine TL.gY rfl rfl rfl ?_
            refine TL.callA rfl rfl Try.call16 (fun w hs => awake_spec hs) ?_
            rintro _ rfl
            refine TL.p (EvP.pickT rfl rfl) ?_
            refine TL.p (EvP.assign rfl) ?_
            refine TL.nil ?_
            refine TX.thenN rfl rfl ?_
            refine TC.ret ?_
            refine TX.done rfl (Res.one rfl rfl) (fun w hs => Post0.mk hs ?_ (by repeat (first | exact Le.refl _ | exact Le.nil _ | refine Le.hit ?_ | refine Le.hit1 ?_ | refine Le.hit2 ?_ | refine Le.hit3 ?_ | refine Le.hit4 ?_ | refine Le.hit5 ?_ | refine Le.hit6 ?_ | refine Le.hit7 ?_ | refine Le.hit8 ?_ | refine Le.hit9 ?_ | refine Le.hit10 ?_ | refine Le.skip ?_)))
            rfl
          · refine TL.gY rfl rfl rfl ?_
            refine TL.p (EvP.pickF rfl rfl) ?_
            refine TL.gY rfl rfl rfl ?_
            refine TL.p (EvP.move rfl) ?_
            refine TL.gY rfl rfl rfl ?_
            refine TL.p (EvP.move rfl) ?_
            refine TL.gY rfl rfl rfl ?_
            refine TL.p (EvP.move rfl) ?_
            refine TL.gY rfl rfl rfl ?_
            refine TL.le (Le.hit1 (Le.refl _)) ?_
            refine TL.callB rfl rfl Try.call21 (fun w hs => g_of hG2 (pid := pid) (most := 2048) (by omega) hs) ?_
            rintro _ CO ho
            rw [apart_of hok hk01 (by simp_all) (by simp_all)] at ho
            have hol : (ofL L pid).length ≤ 1024 := Nat.le_trans (List.length_filter_le _ _) hll
            rw [List.take_of_length_le (by show (ofL L pid).length ≤ 2048; omega)] at ho
            refine TL.gY rfl rfl rfl ?_
            refine TL.p (EvP.move rfl) ?_
            refine TL.gY rfl rfl rfl ?_
            refine TL.callA rfl rfl Try.call14 (fun w hs => bonds_spec (ho.els encB_ok (by simp)) (hw.els encB_ok (by simp)) (by omega) hs) ?_
            rintro _ rfl
            refine TL.gY rfl rfl rfl ?_
            refine TL.p (EvP.pickF rfl rfl) ?_
            refine TL.p (EvP.pickT rfl rfl) ?_
            refine TL.p (EvP.move rfl) ?_
            refine TL.gY rfl rfl rfl ?_
            refine TL.callA rfl rfl Try.call16 (fun w hs => awake_spec hs) ?_
            rintro _ rfl
            refine TL.p (EvP.pickT rfl rfl) ?_
            refine TL.p (EvP.assign rfl) ?_
            refine TL.nil ?_
            refine TX.thenN rfl rfl ?_
            refine TC.ret ?_
            refine TX.done rfl (Res.one rfl rfl) (fun w hs => Post0.mk hs ?_ (by repeat (first | exact Le.refl _ | exact Le.nil _ | refine Le.hit ?_ | refine Le.hit1 ?_ | refine Le.hit2 ?_ | refine Le.hit3 ?_ | refine Le.hit4 ?_ | refine Le.hit5 ?_ | refine Le.hit6 ?_ | refine Le.hit7 ?_ | refine Le.hit8 ?_ | refine Le.hit9 ?_ | refine Le.hit10 ?_ | refine Le.skip ?_)))
            rfl
    · refine TL.p (EvP.pickF rfl rfl) ?_
      refine TL.nil ?_
      refine TX.thenN rfl rfl ?_
      refine TC.cfalse rfl ?_
      refine TC.skip ?_
      refine TX.thenN rfl rfl ?_
      refine TC.seq ?_
      refine TC.seq ?_
      refine TC.region ?_
      refine TL.p (EvP.move rfl) ?_
      refine TL.p (EvP.lenS Try.runUnderlying50 rfl) ?_
      refine TL.p (EvP.move rfl) ?_
      refine TL.nil ?_
      refine TX.thenN rfl rfl ?_
      refine TC.block ?_
      refine TC.loop (ι := Nat) (fun i => [(32, .slice al (grp L pid).length cl), (33, .int .i64 (grp L pid).length), (34, .int .i64 i), (5, .pointer (some ⟨b5, 0, none⟩)), (7, .pointer (some ⟨g, 0, none⟩)), (8, .pointer (some ⟨rr, 0, none⟩)), (1, .int .i64 pid), (9, .slice al (grp L pid).length cl), (6, .bool false)]) (fun i => [(b5, .cells (LOp.enc o).toArray 23 (0, 0))] :: Cl :: C :: Cr :: D :: R) (fun i => i ≤ (grp L pid).length ∧ ∀ z ∈ (grp L pid).take i, z ≠ o.a ∧ z ≠ o.b) (fun i => (grp L pid).length - i) (0) (⟨Nat.zero_le _, by simp⟩) ⟨rfl, rfl, rfl, rfl, rfl, rfl, rfl, rfl, rfl, trivial⟩ (by repeat (first | exact Le.refl _ | exact Le.nil _ | refine Le.hit ?_ | refine Le.hit1 ?_ | refine Le.hit2 ?_ | refine Le.hit3 ?_ | refine Le.hit4 ?_ | refine Le.hit5 ?_ | refine Le.hit6 ?_ | refine Le.hit7 ?_ | refine Le.hit8 ?_ | refine Le.hit9 ?_ | refine Le.hit10 ?_ | refine Le.skip ?_)) ?_
      rintro i ⟨hi, hoff0⟩
      change TC _ _ [(32, .slice al (grp L pid).length cl), (33, .int .i64 (grp L pid).length), (34, .int .i64 i), (5, .pointer (some ⟨b5, 0, none⟩)), (7, .pointer (some ⟨g, 0, none⟩)), (8, .pointer (some ⟨rr, 0, none⟩)), (1, .int .i64 pid), (9, .slice al (grp L pid).length cl), (6, .bool false)] ([(b5, .cells (LOp.enc o).toArray 23 (0, 0))] :: Cl :: C :: Cr :: D :: R) _
      refine TC.seq ?_
      refine TC.region ?_
      refine TL.dec (EvP.lt rfl rfl) (fun h35 => ?_) (fun h35 => ?_)
      · refine TL.nil ?_
        refine TX.thenN rfl rfl ?_
        refine TC.seq ?_
        refine TC.ctrue rfl ?_
        refine TC.skip ?_
        refine TX.thenN rfl rfl ?_
        refine TC.seq ?_
        refine TC.block ?_
        refine TC.seq ?_
        refine TC.region ?_
        have hlt : i < (grp L pid).length := by omega
        obtain ⟨x, hx⟩ : ∃ x, (grp L pid)[i]? = some x := ⟨_, List.getElem?_eq_getElem hlt⟩
        refine TL.elem (hl.el encI_ok (j := i) (x := x) hx (by simp)) Try.runUnderlying50 Try.sizeOf2 rfl rfl (fun bE oE lE _ _ hE hcE => ?_)
        refine TL.r (EvR.load rfl Try.isAgg2 hE hcE.1) ?_
        refine TL.p (EvP.assign rfl) ?_
        refine TL.nil ?_
        refine TX.thenN rfl rfl ?_
        refine TC.seq ?_
        refine TC.region ?_
        refine TL.p (EvP.move rfl) ?_
        refine TL.p (EvP.fa (e := 1) rfl Try.runUnderlying23 rfl Try.sizeOf2 rfl) ?_
        refine TL.r (EvR.load rfl Try.isAgg2 (AtB.own (by repeat (first | exact Has.hd | refine Has.tlb ?_ | refine Has.tlc ?_))) (by rfl)) ?_
        refine TL.dec (EvP.eq rfl rfl) (fun h41 => ?_) (fun h41 => ?_)
        · refine TL.p (EvP.move rfl) ?_
          refine TL.gN rfl rfl rfl ?_
          refine TL.gN rfl rfl rfl ?_
          refine TL.gN rfl rfl rfl ?_
          refine TL.gN rfl rfl rfl ?_
          refine TL.p (EvP.pickT rfl rfl) ?_
          refine TL.nil ?_
          refine TX.thenN rfl rfl ?_
          refine TC.ctrue rfl ?_
          refine TC.seq ?_
          refine TC.region ?_
          refine TL.callA rfl rfl Try.call16 (fun w hs => awake_spec hs) ?_
          rintro _ rfl
          refine TL.p (EvP.assign rfl) ?_
          refine TL.nil ?_
          refine TX.thenN rfl rfl ?_
          refine TC.ret ?_
          refine TX.blkR ?_
          refine TX.thenR ?_
          refine TX.thenR ?_
          refine TX.blkR ?_
          refine TX.thenR ?_
          refine TX.done rfl (Res.one rfl rfl) (fun w hs => Post0.mk hs ?_ (by repeat (first | exact Le.refl _ | exact Le.nil _ | refine Le.hit ?_ | refine Le.hit1 ?_ | refine Le.hit2 ?_ | refine Le.hit3 ?_ | refine Le.hit4 ?_ | refine Le.hit5 ?_ | refine Le.hit6 ?_ | refine Le.hit7 ?_ | refine Le.hit8 ?_ | refine Le.hit9 ?_ | refine Le.hit10 ?_ | refine Le.skip ?_)))
          rfl
        · refine TL.p (EvP.move rfl) ?_
          refine TL.gY rfl rfl rfl ?_
          refine TL.p (EvP.move rfl) ?_
          refine TL.gY rfl rfl rfl ?_
          refine TL.p (EvP.fa (e := 2) rfl Try.runUnderlying23 rfl Try.sizeOf2 rfl) ?_
          refine TL.gY rfl rfl rfl ?_
          refine TL.r (EvR.load rfl Try.isAgg2 (AtB.own (by repeat (first | exact Has.hd | refine Has.tlb ?_ | refine Has.tlc ?_))) (by rfl)) ?_
          refine TL.gY rfl rfl rfl ?_
          refine TL.dec (EvP.eq rfl rfl) (fun h46 => ?_) (fun h46 => ?_)
          · refine TL.p (EvP.pickF rfl rfl) ?_
            refine TL.nil ?_
            refine TX.thenN rfl rfl ?_
            refine TC.ctrue rfl ?_
            refine TC.seq ?_
            refine TC.region ?_
            refine TL.callA rfl rfl Try.call16 (fun w hs => awake_spec hs) ?_
            rintro _ rfl
            refine TL.p (EvP.assign rfl) ?_
            refine TL.nil ?_
            refine TX.thenN rfl rfl ?_
            refine TC.ret ?_
            refine TX.blkR ?_
            refine TX.thenR ?_
            refine TX.thenR ?_
            refine TX.blkR ?_
            refine TX.thenR ?_
            refine TX.done rfl (Res.one rfl rfl) (fun w hs => Post0.mk hs ?_ (by repeat (first | exact Le.refl _ | exact Le.nil _ | refine Le.hit ?_ | refine Le.hit1 ?_ | refine Le.hit2 ?_ | refine Le.hit3 ?_ | refine Le.hit4 ?_ | refine Le.hit5 ?_ | refine Le.hit6 ?_ | refine Le.hit7 ?_ | refine Le.hit8 ?_ | refine Le.hit9 ?_ | refine Le.hit10 ?_ | refine Le.skip ?_)))
            rfl
          · refine TL.p (EvP.pickF rfl rfl) ?_
            refine TL.nil ?_
            refine TX.thenN rfl rfl ?_
            refine TC.cfalse rfl ?_
            refine TC.skip ?_
            refine TX.blkN ?_
            refine TX.thenN rfl rfl ?_
            refine TC.region ?_
            refine TL.p (EvP.add rfl rfl (by omega)) ?_
            refine TL.p (EvP.move rfl) ?_
            refine TL.nil ?_
            refine TX.back (i + 1) (apart_step hx hi hoff0 (by simp_all) (by simp_all)) (by omega) ⟨rfl, rfl, rfl, rfl, rfl, rfl, rfl, rfl, rfl, trivial⟩ (by repeat (first | exact Le.refl _ | exact Le.nil _ | refine Le.hit ?_ | refine Le.hit1 ?_ | refine Le.hit2 ?_ | refine Le.hit3 ?_ | refine Le.hit4 ?_ | refine Le.hit5 ?_ | refine Le.hit6 ?_ | refine Le.hit7 ?_ | refine Le.hit8 ?_ | refine Le.hit9 ?_ | refine Le.hit10 ?_ | refine Le.skip ?_))
      · refine TL.nil ?_
        refine TX.thenN rfl rfl ?_
        refine TC.seq ?_
        refine TC.cfalse rfl ?_
        refine TC.exit ?_
        refine TX.thenE ?_
        refine TX.thenE ?_
        refine TX.blkH ?_
        refine TX.thenN rfl rfl ?_
        refine TC.seq ?_
        refine TC.region ?_
        refine TL.p (EvP.move rfl) ?_
        refine TL.p (EvP.move rfl) ?_
        have hi3 : i = (grp L pid).length := by omega
        subst hi3
        rw [List.take_length] at hoff0
        have hoff : ∀ z ∈ grp L pid, z ≠ o.a ∧ z ≠ o.b := hoff0
        refine TL.le (Le.hit3 (Le.hit3 (Le.refl _))) ?_
        refine TL.callB rfl rfl Try.call18 (fun w hs => r_of hR hll pid hs) ?_
        rintro _ CW hw
        refine TL.p (EvP.assign rfl) ?_
        refine TL.nil ?_
        refine TX.thenN rfl rfl ?_
        refine TC.seq ?_
        refine TC.seq ?_
        refine TC.region ?_
        refine TL.p (EvP.move rfl) ?_
        refine TL.p (EvP.move rfl) ?_
        refine TL.r (EvR.loadN (vs := [_, _, _, _]) rfl Try.isAgg23 Try.sizeOf23 (AtB.own (by repeat (first | exact Has.hd | refine Has.tlb ?_ | refine Has.tlc ?_))) (by exact ⟨rfl, rfl, rfl, rfl,  trivial⟩)) ?_
        have hk01 : o.k = 0 ∨ o.k = 1 := by omega
        replace hoff : ∀ z ∈ grp L pid, z ≠ LOp.a o ∧ z ≠ LOp.b o := hoff
        refine TL.le (Le.hit5 (Le.hit1 (Le.hit1 (Le.refl _)))) ?_
        refine TL.callD rfl rfl Try.call13 (fun w hs => step_spec hG (by omega) hR o hs) ?_
        rintro _ C2 Cr2 D2 ⟨rfl, hG2, hR2⟩
        refine TL.p (EvP.not rfl) ?_
        refine TL.nil ?_
        refine TX.thenN rfl rfl ?_
        refine TC.cfalse rfl ?_
        refine TC.skip ?_
        refine TX.thenN rfl rfl ?_
        refine TC.seq ?_
        refine TC.region ?_
        refine TL.p (EvP.move rfl) ?_
        refine TL.p (EvP.move rfl) ?_
        refine TL.callB rfl rfl Try.call23 (fun w hs => g_group hG2 pid hs) ?_
        rintro _ Cx hgx
        rw [apart_grp hok hG2.ok hk01 hoff] at hgx
        refine TL.p (EvP.move rfl) ?_
        refine TL.callA rfl rfl Try.call24 (fun w hs => pids_spec (hgx.els encI_ok (by simp)) (hl.els encI_ok (by simp)) (by omega) hs) ?_
        rintro _ rfl
        refine TL.p (EvP.move rfl) ?_
        refine TL.gY rfl rfl rfl ?_
        refine TL.p (EvP.move rfl) ?_
        refine TL.gY rfl rfl rfl ?_
        refine TL.p (EvP.fa (e := 1) rfl Try.runUnderlying23 rfl Try.sizeOf2 rfl) ?_
        refine TL.gY rfl rfl rfl ?_
        refine TL.r (EvR.load rfl Try.isAgg2 (AtB.own (by repeat (first | exact Has.hd | refine Has.tlb ?_ | refine Has.tlc ?_))) (by rfl)) ?_
        refine TL.gY rfl rfl rfl ?_
        refine TL.dec (EvP.eq rfl rfl) (fun h67 => ?_) (fun h67 => ?_)
        · refine TL.gY rfl rfl rfl ?_
          refine TL.p (EvP.move rfl) ?_
          refine TL.gN rfl rfl rfl ?_
          refine TL.gN rfl rfl rfl ?_
          refine TL.gN rfl rfl rfl ?_
          refine TL.gN rfl rfl rfl ?_
          refine TL.gY rfl rfl rfl ?_
          refine TL.p (EvP.pickT rfl rfl) ?_
          refine TL.gY rfl rfl rfl ?_
          refine TL.p (EvP.move rfl) ?_
          refine TL.gN rfl rfl rfl ?_
          refine TL.gN rfl rfl rfl ?_
          refine TL.gN rfl rfl rfl ?_
          refine TL.gN rfl rfl rfl ?_
          refine TL.gN rfl rfl rfl ?_
          refine TL.gY rfl rfl rfl ?_
          refine TL.p (EvP.pickT rfl rfl) ?_
          refine TL.p (EvP.pickT rfl rfl) ?_
          refine TL.p (EvP.move rfl) ?_
          refine TL.gY rfl rfl rfl ?_
          refine TL.callA rfl rfl Try.call16 (fun w hs => awake_spec hs) ?_
          rintro _ rfl
          refine TL.p (EvP.pickT rfl rfl) ?_
          refine TL.p (EvP.assign rfl) ?_
          refine TL.nil ?_
          refine TX.thenN rfl rfl ?_
          refine TC.ret ?_
          refine TX.done rfl (Res.one rfl rfl) (fun w hs => Post0.mk hs ?_ (by repeat (first | exact Le.refl _ | exact Le.nil _ | refine Le.hit ?_ | refine Le.hit1 ?_ | refine Le.hit2 ?_ | refine Le.hit3 ?_ | refine Le.hit4 ?_ | refine Le.hit5 ?_ | refine Le.hit6 ?_ | refine Le.hit7 ?_ | refine Le.hit8 ?_ | refine Le.hit9 ?_ | refine Le.hit10 ?_ | refine Le.skip ?_)))
          rfl
        · refine TL.gY rfl rfl rfl ?_
          refine TL.p (EvP.move rfl) ?_
          refine TL.gY rfl rfl rfl ?_
          refine TL.p (EvP.move rfl) ?_
          refine TL.gY rfl rfl rfl ?_
          refine TL.p (EvP.fa (e := 2) rfl Try.runUnderlying23 rfl Try.sizeOf2 rfl) ?_
          refine TL.gY rfl rfl rfl ?_
          refine TL.r (EvR.load rfl Try.isAgg2 (AtB.own (by repeat (first | exact Has.hd | refine Has.tlb ?_ | refine Has.tlc ?_))) (by rfl)) ?_
          refine TL.gY rfl rfl rfl ?_
          refine TL.dec (EvP.eq rfl rfl) (fun h72 => ?_) (fun h72 => ?_)
          · refine TL.gY rfl rfl rfl ?_
            refine TL.p (EvP.pickF rfl rfl) ?_
            refine TL.gY rfl rfl rfl ?_
            refine TL.p (EvP.move rfl) ?_
            refine TL.gN rfl rfl rfl ?_
            refine TL.gN rfl rfl rfl ?_
            refine TL.gN rfl rfl rfl ?_
            refine TL.gN rfl rfl rfl ?_
            refine TL.gN rfl rfl rfl ?_
            refine TL.gY rfl rfl rfl ?_
            refine TL.p (EvP.pickT rfl rfl) ?_
            refine TL.p (EvP.pickT rfl rfl) ?_
            refine TL.p (EvP.move rfl) ?_
            refine TL.gY rfl rfl rfl ?_
            refine TL.callA rfl rfl Try.call16 (fun w hs => awake_spec hs) ?_
            rintro _ rfl
            refine TL.p (EvP.pickT rfl rfl) ?_
            refine TL.p (EvP.assign rfl) ?_
            refine TL.nil ?_
            refine TX.thenN rfl rfl ?_
            refine TC.ret ?_
            refine TX.done rfl (Res.one rfl rfl) (fun w hs => Post0.mk hs ?_ (by repeat (first | exact Le.refl _ | exact Le.nil _ | refine Le.hit ?_ | refine Le.hit1 ?_ | refine Le.hit2 ?_ | refine Le.hit3 ?_ | refine Le.hit4 ?_ | refine Le.hit5 ?_ | refine Le.hit6 ?_ | refine Le.hit7 ?_ | refine Le.hit8 ?_ | refine Le.hit9 ?_ | refine Le.hit10 ?_ | refine Le.skip ?_)))
            rfl
          · refine TL.gY rfl rfl rfl ?_
            refine TL.p (EvP.pickF rfl rfl) ?_
            refine TL.gY rfl rfl rfl ?_
            refine TL.p (EvP.move rfl) ?_
            refine TL.gY rfl rfl rfl ?_
            refine TL.p (EvP.move rfl) ?_
            refine TL.gY rfl rfl rfl ?_
            refine TL.p (EvP.move rfl) ?_
            refine TL.gY rfl rfl rfl ?_
            refine TL.le (Le.hit1 (Le.refl _)) ?_
            refine TL.callB rfl rfl Try.call21 (fun w hs => g_of hG2 (pid := pid) (most := 2048) (by omega) hs) ?_
            rintro _ CO ho
            rw [apart_of hok hk01 (by simp_all) (by simp_all)] at ho
            have hol : (ofL L pid).length ≤ 1024 := Nat.le_trans (List.length_filter_le _ _) hll
            rw [List.take_of_length_le (by show (ofL L pid).length ≤ 2048; omega)] at ho
            refine TL.gY rfl rfl rfl ?_
            refine TL.p (EvP.move rfl) ?_
            refine TL.gY rfl rfl rfl ?_
            refine TL.callA rfl rfl Try.call14 (fun w hs => bonds_spec (ho.els encB_ok (by simp)) (hw.els encB_ok (by simp)) (by omega) hs) ?_
            rintro _ rfl
            refine TL.gY rfl rfl rfl ?_
            refine TL.p (EvP.pickF rfl rfl) ?_
            refine TL.p (EvP.pickT rfl rfl) ?_
            refine TL.p (EvP.move rfl) ?_
            refine TL.gY rfl rfl rfl ?_
            refine TL.callA rfl rfl Try.call16 (fun w hs => awake_spec hs) ?_
            rintro _ rfl
            refine TL.p (EvP.pickT rfl rfl) ?_
            refine TL.p (EvP.assign rfl) ?_
            refine TL.nil ?_
            refine TX.thenN rfl rfl ?_
            refine TC.ret ?_
            refine TX.done rfl (Res.one rfl rfl) (fun w hs => Post0.mk hs ?_ (by repeat (first | exact Le.refl _ | exact Le.nil _ | refine Le.hit ?_ | refine Le.hit1 ?_ | refine Le.hit2 ?_ | refine Le.hit3 ?_ | refine Le.hit4 ?_ | refine Le.hit5 ?_ | refine Le.hit6 ?_ | refine Le.hit7 ?_ | refine Le.hit8 ?_ | refine Le.hit9 ?_ | refine Le.hit10 ?_ | refine Le.skip ?_)))
            rfl
end Go.Proofs.Ytnmljhhbabjlcaa
