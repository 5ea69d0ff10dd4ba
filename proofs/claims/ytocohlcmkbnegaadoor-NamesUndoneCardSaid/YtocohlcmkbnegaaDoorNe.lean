/-
  Walks of the document's names; what each call comes to.
-/
import Derived.Test.YtocohlcmkbnegaaDoorNd
set_option linter.unusedSimpArgs false
set_option linter.unusedVariables false
set_option maxRecDepth 100000
namespace Go.Proofs.YtocohlcmkbnegaaDoor
open Go Go.RowKit

def RQ (rr : Nat) (L : List En) (C D : Chunk) : Prop := ∃ v, C = [(rr, .cells [v].toArray 28 (0, 0))] ∧ Sl 45 2 En.enc v L D
theorem RQ.open_ {rr : Nat} {L : List En} {C D : Chunk} (h : RQ rr L C D) : ∃ a cap, C = [(rr, .cells [.slice a L.length cap].toArray 28 (0, 0))] ∧ Sl 45 2 En.enc (.slice a L.length cap) L D := by
  obtain ⟨v, rfl, hv⟩ := h
  obtain ⟨a, cap, rfl, _, _⟩ := hv.len
  exact ⟨a, cap, rfl, hv⟩
theorem sub_one (q : Nat) : Value.int .i64 (((q + 1 : Nat) : Int) - 1) = Value.int .i64 (q : Int) := by congr 1; omega
theorem ins_step {L : List En} {q : Nat} {x : En} {s : Str} (hx : L[q]? = some x) (hall : ∀ x ∈ L.drop (q + 1), s < x.n) (h : s < x.n) : ∀ x ∈ L.drop q, s < x.n := by
  rw [drop_cons hx]
  intro y hy
  rcases List.mem_cons.1 hy with rfl | hy
  · exact h
  · exact hall y hy
theorem le_at {L : List En} (hok : NL L) {q : Nat} {x : En} {s : Str} (hx : L[q]? = some x) (h : ¬ s < x.n) (hk : q + 1 ≤ L.length) : ∀ x ∈ L.take (q + 1), ¬ s < x.n :=
  hok.take_le hk fun q2 x2 e hx2 => by
    cases e
    rw [hx] at hx2
    cases hx2
    exact h
theorem pos_any {L : List En} {p : En → Bool} : (0 ≤ pos p L) ↔ L.any p = true := by
  rw [any_find]
  rcases pos_cases (p := p) (L := L) with ⟨h1, h2, _⟩ | ⟨k, x, h1, _, _, h2⟩
  · rw [h1, h2]; simp
  · rw [h1, h2]; simp
section
variable {L : List En} {s : Str} {p : Int}
theorem radd_6 (h : okN s = true) (hp : okPid p = true) (hb : 0 ≤ pos (isN s) L ∨ 0 ≤ pos (isP p) L) : add L s p = (6, L) := by
  unfold add
  have : (L.any (isN s) || L.any (isP p)) = true := by
    rw [Bool.or_eq_true]
    exact hb.imp pos_any.1 pos_any.1
  simp [h, hp, this]
theorem pos_none {p : En → Bool} (h : ¬ 0 ≤ pos p L) : L.any p = false := by
  cases e : L.any p with
  | false => rfl
  | true => exact absurd (pos_any.2 e) h
theorem radd_8 (h : okN s = true) (hp : okPid p = true) (h1 : ¬ 0 ≤ pos (isN s) L) (h2 : ¬ 0 ≤ pos (isP p) L) (hl : 64 ≤ L.length) : add L s p = (8, L) := by
  unfold add
  rw [if_neg (by simp [h]), if_neg (by simp [hp]), if_neg (by simp [pos_none h1, pos_none h2]), if_pos hl]
theorem radd_0 (h : okN s = true) (hp : okPid p = true) (h1 : ¬ 0 ≤ pos (isN s) L) (h2 : ¬ 0 ≤ pos (isP p) L) (hl : ¬ 64 ≤ L.length) : add L s p = (0, insE ⟨s, p⟩ L) := by
  unfold add
  rw [if_neg (by simp [h]), if_neg (by simp [hp]), if_neg (by simp [pos_none h1, pos_none h2]), if_neg hl]
end
theorem neSame {Lf : Fl} {t u : Nat} {ty ty' : TypeId} (x : En) (hx : ev Lf (.tmp t) = some x.v := by rfl) (hb : ev Lf (.tmp u) = some x.v := by rfl) : EvP Tryd.prog (.binOp .neq 45 (.tmp t) (.tmp u) ty') ty Lf (.bool false) :=
  EvP.neStruct (xs := x.enc) (ys := x.enc) hx hb Tryd.underlying45 (by kernel_rfl) Tryd.eqGuardType45
    (.cons (by decide) Tryd.isAgg9 rfl rfl (eqStrIn Tryd.runUnderlying9) (.cons (by decide) Tryd.isAgg2 rfl rfl (eqIntIn Tryd.runUnderlying2) .nil)) (r := true) (by simp)

theorem rfind_spec {w0 w : World} {R : List Chunk} {rr : Nat} {a : Option Addr} {cap : Nat} {L : List En} {D : Chunk} (s : Str) (hv : Sl 45 2 En.enc (.slice a L.length cap) L D) (hok : NL L) (hst : St w0 w ([(rr, .cells [(.slice a L.length cap)].toArray 28 (0, 0))] :: D :: R)) : Calls Tryd.prog 27 #[.pointer (some ⟨rr, 0, none⟩), sv s] w (Post0 w0 ([(rr, .cells [(.slice a L.length cap)].toArray 28 (0, 0))] :: D :: R) fun v => v = .int .i64 (pos (isN s) L)) := by
  have hlen := hok.len
  refine calls_of (args := [_, _]) Tryd.func27 rfl Tryd.ntmps27 hst ?_
  refine TC.seq ?_
  refine TC.region ?_
  refine TL.p (EvP.assign rfl) ?_
  refine TL.nil ?_
  refine TX.thenN rfl rfl ?_
  refine TC.seq ?_
  refine TC.seq ?_
  refine TC.region ?_
  refine TL.p (EvP.assign rfl) ?_
  refine TL.nil ?_
  refine TX.thenN rfl rfl ?_
  refine TC.block ?_
  refine TC.loop (ι := Nat) (fun i => [(0, .pointer (some ⟨rr, 0, none⟩)), (1, sv s), (5, .int .i64 i)]) (fun i => [(rr, .cells [(.slice a L.length cap)].toArray 28 (0, 0))] :: D :: R) (fun i => i ≤ L.length ∧ pos (isN s) L = posA (isN s) (L.drop i) i) (fun i => L.length - i) (0) (⟨Nat.zero_le _, rfl⟩) ⟨rfl, rfl, rfl, trivial⟩ (by repeat (first | exact Le.refl _ | exact Le.nil _ | refine Le.hit ?_ | refine Le.hit1 ?_ | refine Le.hit2 ?_ | refine Le.hit3 ?_ | refine Le.hit4 ?_ | refine Le.hit5 ?_ | refine Le.hit6 ?_ | refine Le.hit7 ?_ | refine Le.hit8 ?_ | refine Le.hit9 ?_ | refine Le.hit10 ?_ | refine Le.skip ?_)) ?_
  rintro i ⟨hi, hi2⟩
  change TC _ _ [(0, .pointer (some ⟨rr, 0, none⟩)), (1, sv s), (5, .int .i64 i)] ([(rr, .cells [(.slice a L.length cap)].toArray 28 (0, 0))] :: D :: R) _
  refine TC.seq ?_
  refine TC.seq ?_
  refine TC.region ?_
  refine TL.p (EvP.move rfl) ?_
  refine TL.p (EvP.move rfl) ?_
  refine TL.p (EvP.nilP rfl) ?_
  refine TL.p (EvP.fa (e := 0) rfl Tryd.runUnderlying28 rfl Tryd.sizeOf26 rfl) ?_
  refine TL.r (EvR.load rfl Tryd.isAgg26 (AtB.own (by repeat (first | exact Has.hd | refine Has.tlb ?_ | refine Has.tlc ?_))) (by rfl)) ?_
  refine TL.p (EvP.lenS Tryd.runUnderlying26 rfl) ?_
  refine TL.dec (EvP.lt rfl rfl) (fun h12 => ?_) (fun h12 => ?_)
  · refine TL.nil ?_
    refine TX.thenN rfl rfl ?_
    refine TC.ctrue rfl ?_
    refine TC.skip ?_
    refine TX.thenN rfl rfl ?_
    refine TC.seq ?_
    refine TC.block ?_
    refine TC.seq ?_
    refine TC.region ?_
    refine TL.p (EvP.move rfl) ?_
    refine TL.p (EvP.nilP rfl) ?_
    refine TL.p (EvP.fa (e := 0) rfl Tryd.runUnderlying28 rfl Tryd.sizeOf26 rfl) ?_
    refine TL.r (EvR.load rfl Tryd.isAgg26 (AtB.own (by repeat (first | exact Has.hd | refine Has.tlb ?_ | refine Has.tlc ?_))) (by rfl)) ?_
    refine TL.p (EvP.move rfl) ?_
    have hlt : i < L.length := by omega
    obtain ⟨x, hx⟩ : ∃ x, L[i]? = some x := ⟨_, List.getElem?_eq_getElem hlt⟩
    refine TL.elem (hv.el encN_ok hx (by simp)) Tryd.runUnderlying26 Tryd.sizeOf45 rfl rfl (fun bE oE lE _ _ hE hcE => ?_)
    refine TL.p (EvP.fa rfl Tryd.runUnderlying45 rfl Tryd.sizeOf9 rfl) ?_
    refine TL.r (EvR.load rfl Tryd.isAgg9 hE hcE.1) ?_
    refine TL.p (EvP.move rfl) ?_
    refine TL.dec (EvP.eqS rfl rfl) (fun h24 => ?_) (fun h24 => ?_)
    · refine TL.nil ?_
      refine TX.thenN rfl rfl ?_
      refine TC.ctrue rfl ?_
      refine TC.seq ?_
      refine TC.region ?_
      have hp : (isN s) x = true := by simp [isN, isP, h24]
      refine TL.p (EvP.move rfl) ?_
      refine TL.p (EvP.assign rfl) ?_
      refine TL.nil ?_
      refine TX.thenN rfl rfl ?_
      refine TC.ret ?_
      refine TX.blkR ?_
      refine TX.thenR ?_
      refine TX.thenR ?_
      refine TX.blkR ?_
      refine TX.thenR ?_
      refine TX.done rfl (Res.one rfl rfl) (fun w hs => Post0.mk hs ?_ (by repeat (first | exact Le.refl _ | exact Le.nil _ | refine Le.hit ?_ | refine Le.hit1 ?_ | refine Le.hit2 ?_ | refine Le.hit3 ?_ | refine Le.hit4 ?_ | refine Le.hit5 ?_ | refine Le.hit6 ?_ | refine Le.hit7 ?_ | refine Le.hit8 ?_ | refine Le.hit9 ?_ | refine Le.hit10 ?_ | refine Le.skip ?_)))
      rw [hi2, posA_yes hx hp]
    · refine TL.nil ?_
      refine TX.thenN rfl rfl ?_
      refine TC.cfalse rfl ?_
      refine TC.skip ?_
      refine TX.blkN ?_
      refine TX.thenN rfl rfl ?_
      refine TC.region ?_
      have hp : (isN s) x = false := by simp [isN, isP, h24]
      refine TL.p (EvP.move rfl) ?_
      refine TL.p (EvP.add rfl rfl (by omega)) ?_
      refine TL.p (EvP.assign rfl) ?_
      refine TL.nil ?_
      refine TX.back (i + 1) (⟨by omega, by rw [hi2, posA_no hx hp]⟩) (by omega) ⟨rfl, rfl, rfl, trivial⟩ (by repeat (first | exact Le.refl _ | exact Le.nil _ | refine Le.hit ?_ | refine Le.hit1 ?_ | refine Le.hit2 ?_ | refine Le.hit3 ?_ | refine Le.hit4 ?_ | refine Le.hit5 ?_ | refine Le.hit6 ?_ | refine Le.hit7 ?_ | refine Le.hit8 ?_ | refine Le.hit9 ?_ | refine Le.hit10 ?_ | refine Le.skip ?_))
  · refine TL.nil ?_
    refine TX.thenN rfl rfl ?_
    refine TC.cfalse rfl ?_
    refine TC.exit ?_
    refine TX.thenE ?_
    refine TX.thenE ?_
    refine TX.blkH ?_
    refine TX.thenN rfl rfl ?_
    refine TC.seq ?_
    refine TC.region ?_
    refine TL.p (EvP.assign rfl) ?_
    refine TL.nil ?_
    refine TX.thenN rfl rfl ?_
    refine TC.ret ?_
    refine TX.done rfl (Res.one rfl rfl) (fun w hs => Post0.mk hs ?_ (by repeat (first | exact Le.refl _ | exact Le.nil _ | refine Le.hit ?_ | refine Le.hit1 ?_ | refine Le.hit2 ?_ | refine Le.hit3 ?_ | refine Le.hit4 ?_ | refine Le.hit5 ?_ | refine Le.hit6 ?_ | refine Le.hit7 ?_ | refine Le.hit8 ?_ | refine Le.hit9 ?_ | refine Le.hit10 ?_ | refine Le.skip ?_)))
    rw [hi2, posA_end (by omega)]

theorem rwho_spec {w0 w : World} {R : List Chunk} {rr : Nat} {a : Option Addr} {cap : Nat} {L : List En} {D : Chunk} (p : Int) (hv : Sl 45 2 En.enc (.slice a L.length cap) L D) (hok : NL L) (hst : St w0 w ([(rr, .cells [(.slice a L.length cap)].toArray 28 (0, 0))] :: D :: R)) : Calls Tryd.prog 28 #[.pointer (some ⟨rr, 0, none⟩), .int .i64 p] w (Post0 w0 ([(rr, .cells [(.slice a L.length cap)].toArray 28 (0, 0))] :: D :: R) fun v => v = .int .i64 (pos (isP p) L)) := by
  have hlen := hok.len
  refine calls_of (args := [_, _]) Tryd.func28 rfl Tryd.ntmps28 hst ?_
  refine TC.seq ?_
  refine TC.region ?_
  refine TL.p (EvP.assign rfl) ?_
  refine TL.nil ?_
  refine TX.thenN rfl rfl ?_
  refine TC.seq ?_
  refine TC.seq ?_
  refine TC.region ?_
  refine TL.p (EvP.assign rfl) ?_
  refine TL.nil ?_
  refine TX.thenN rfl rfl ?_
  refine TC.block ?_
  refine TC.loop (ι := Nat) (fun i => [(0, .pointer (some ⟨rr, 0, none⟩)), (1, .int .i64 p), (5, .int .i64 i)]) (fun i => [(rr, .cells [(.slice a L.length cap)].toArray 28 (0, 0))] :: D :: R) (fun i => i ≤ L.length ∧ pos (isP p) L = posA (isP p) (L.drop i) i) (fun i => L.length - i) (0) (⟨Nat.zero_le _, rfl⟩) ⟨rfl, rfl, rfl, trivial⟩ (by repeat (first | exact Le.refl _ | exact Le.nil _ | refine Le.hit ?_ | refine Le.hit1 ?_ | refine Le.hit2 ?_ | refine Le.hit3 ?_ | refine Le.hit4 ?_ | refine Le.hit5 ?_ | refine Le.hit6 ?_ | refine Le.hit7 ?_ | refine Le.hit8 ?_ | refine Le.hit9 ?_ | refine Le.hit10 ?_ | refine Le.skip ?_)) ?_
  rintro i ⟨hi, hi2⟩
  change TC _ _ [(0, .pointer (some ⟨rr, 0, none⟩)), (1, .int .i64 p), (5, .int .i64 i)] ([(rr, .cells [(.slice a L.length cap)].toArray 28 (0, 0))] :: D :: R) _
  refine TC.seq ?_
  refine TC.seq ?_
  refine TC.region ?_
  refine TL.p (EvP.move rfl) ?_
  refine TL.p (EvP.move rfl) ?_
  refine TL.p (EvP.nilP rfl) ?_
  refine TL.p (EvP.fa (e := 0) rfl Tryd.runUnderlying28 rfl Tryd.sizeOf26 rfl) ?_
  refine TL.r (EvR.load rfl Tryd.isAgg26 (AtB.own (by repeat (first | exact Has.hd | refine Has.tlb ?_ | refine Has.tlc ?_))) (by rfl)) ?_
  refine TL.p (EvP.lenS Tryd.runUnderlying26 rfl) ?_
  refine TL.dec (EvP.lt rfl rfl) (fun h12 => ?_) (fun h12 => ?_)
  · refine TL.nil ?_
    refine TX.thenN rfl rfl ?_
    refine TC.ctrue rfl ?_
    refine TC.skip ?_
    refine TX.thenN rfl rfl ?_
    refine TC.seq ?_
    refine TC.block ?_
    refine TC.seq ?_
    refine TC.region ?_
    refine TL.p (EvP.move rfl) ?_
    refine TL.p (EvP.nilP rfl) ?_
    refine TL.p (EvP.fa (e := 0) rfl Tryd.runUnderlying28 rfl Tryd.sizeOf26 rfl) ?_
    refine TL.r (EvR.load rfl Tryd.isAgg26 (AtB.own (by repeat (first | exact Has.hd | refine Has.tlb ?_ | refine Has.tlc ?_))) (by rfl)) ?_
    refine TL.p (EvP.move rfl) ?_
    have hlt : i < L.length := by omega
    obtain ⟨x, hx⟩ : ∃ x, L[i]? = some x := ⟨_, List.getElem?_eq_getElem hlt⟩
    refine TL.elem (hv.el encN_ok hx (by simp)) Tryd.runUnderlying26 Tryd.sizeOf45 rfl rfl (fun bE oE lE _ _ hE hcE => ?_)
    refine TL.p (EvP.fa rfl Tryd.runUnderlying45 rfl Tryd.sizeOf2 rfl) ?_
    refine TL.r (EvR.load rfl Tryd.isAgg2 hE hcE.2.1) ?_
    refine TL.p (EvP.move rfl) ?_
    refine TL.dec (EvP.eq rfl rfl) (fun h24 => ?_) (fun h24 => ?_)
    · refine TL.nil ?_
      refine TX.thenN rfl rfl ?_
      refine TC.ctrue rfl ?_
      refine TC.seq ?_
      refine TC.region ?_
      have hp : (isP p) x = true := by simp [isN, isP, h24]
      refine TL.p (EvP.move rfl) ?_
      refine TL.p (EvP.assign rfl) ?_
      refine TL.nil ?_
      refine TX.thenN rfl rfl ?_
      refine TC.ret ?_
      refine TX.blkR ?_
      refine TX.thenR ?_
      refine TX.thenR ?_
      refine TX.blkR ?_
      refine TX.thenR ?_
      refine TX.done rfl (Res.one rfl rfl) (fun w hs => Post0.mk hs ?_ (by repeat (first | exact Le.refl _ | exact Le.nil _ | refine Le.hit ?_ | refine Le.hit1 ?_ | refine Le.hit2 ?_ | refine Le.hit3 ?_ | refine Le.hit4 ?_ | refine Le.hit5 ?_ | refine Le.hit6 ?_ | refine Le.hit7 ?_ | refine Le.hit8 ?_ | refine Le.hit9 ?_ | refine Le.hit10 ?_ | refine Le.skip ?_)))
      rw [hi2, posA_yes hx hp]
    · refine TL.nil ?_
      refine TX.thenN rfl rfl ?_
      refine TC.cfalse rfl ?_
      refine TC.skip ?_
      refine TX.blkN ?_
      refine TX.thenN rfl rfl ?_
      refine TC.region ?_
      have hp : (isP p) x = false := by simp [isN, isP, h24]
      refine TL.p (EvP.move rfl) ?_
      refine TL.p (EvP.add rfl rfl (by omega)) ?_
      refine TL.p (EvP.assign rfl) ?_
      refine TL.nil ?_
      refine TX.back (i + 1) (⟨by omega, by rw [hi2, posA_no hx hp]⟩) (by omega) ⟨rfl, rfl, rfl, trivial⟩ (by repeat (first | exact Le.refl _ | exact Le.nil _ | refine Le.hit ?_ | refine Le.hit1 ?_ | refine Le.hit2 ?_ | refine Le.hit3 ?_ | refine Le.hit4 ?_ | refine Le.hit5 ?_ | refine Le.hit6 ?_ | refine Le.hit7 ?_ | refine Le.hit8 ?_ | refine Le.hit9 ?_ | refine Le.hit10 ?_ | refine Le.skip ?_))
  · refine TL.nil ?_
    refine TX.thenN rfl rfl ?_
    refine TC.cfalse rfl ?_
    refine TC.exit ?_
    refine TX.thenE ?_
    refine TX.thenE ?_
    refine TX.blkH ?_
    refine TX.thenN rfl rfl ?_
    refine TC.seq ?_
    refine TC.region ?_
    refine TL.p (EvP.assign rfl) ?_
    refine TL.nil ?_
    refine TX.thenN rfl rfl ?_
    refine TC.ret ?_
    refine TX.done rfl (Res.one rfl rfl) (fun w hs => Post0.mk hs ?_ (by repeat (first | exact Le.refl _ | exact Le.nil _ | refine Le.hit ?_ | refine Le.hit1 ?_ | refine Le.hit2 ?_ | refine Le.hit3 ?_ | refine Le.hit4 ?_ | refine Le.hit5 ?_ | refine Le.hit6 ?_ | refine Le.hit7 ?_ | refine Le.hit8 ?_ | refine Le.hit9 ?_ | refine Le.hit10 ?_ | refine Le.skip ?_)))
    rw [hi2, posA_end (by omega)]

theorem rout_spec {w0 w : World} {R : List Chunk} {rr : Nat} {a : Option Addr} {cap : Nat} {L : List En} {D : Chunk} {k : Nat} (hk : k < L.length) (hv : Sl 45 2 En.enc (.slice a L.length cap) L D) (hok : NL L) (hst : St w0 w ([(rr, .cells [(.slice a L.length cap)].toArray 28 (0, 0))] :: D :: R)) : Calls Tryd.prog 29 #[.pointer (some ⟨rr, 0, none⟩), .int .i64 k] w (Post2 w0 R fun u C D2 => u = .tuple #[] ∧ RQ rr (L.eraseIdx k) C D2) := by
  have hlen := hok.len
  have hk1 : k ≤ L.length := by omega
  have hk2 : k + 1 ≤ L.length := by omega
  have hcap := hv.capOk
  have hsp := hv.spotOk
  refine calls_of (args := [_, _]) Tryd.func29 rfl Tryd.ntmps29 hst ?_
  refine TC.seq ?_
  refine TC.region ?_
  refine TL.p (EvP.assign rfl) ?_
  refine TL.nil ?_
  refine TX.thenN rfl rfl ?_
  refine TC.seq ?_
  refine TC.region ?_
  refine TL.p (EvP.move rfl) ?_
  refine TL.p (EvP.move rfl) ?_
  refine TL.p (EvP.nilP rfl) ?_
  refine TL.p (EvP.fa (e := 0) rfl Tryd.runUnderlying28 rfl Tryd.sizeOf26 rfl) ?_
  refine TL.r (EvR.load rfl Tryd.isAgg26 (AtB.own (by repeat (first | exact Has.hd | refine Has.tlb ?_ | refine Has.tlc ?_))) (by rfl)) ?_
  refine TL.p (EvP.move rfl) ?_
  refine TL.p (EvP.sliceH (j := (k : Int)) Tryd.runUnderlying26 Tryd.sizeOf45 rfl rfl ⟨by omega, by omega⟩ (by intro p e; exact hsp p e)) ?_
  refine TL.le Le.nilC ?_
  refine TL.append (C := []) (xs := []) rfl rfl elN Tryd.underlying26 encN_ok Sl.nil (SrcR.take Tryd.underlying26 encN_ok hv (k := k) hk1 (by simp)) (by rw [List.length_take]; simp only [List.length_nil]; omega) (by decide) (fun v1 C1 hC1 => ?_)
  refine TL.p (EvP.assign rfl) ?_
  refine TL.nil ?_
  refine TX.thenN rfl rfl ?_
  refine TC.seq ?_
  refine TC.region ?_
  refine TL.p (EvP.move rfl) ?_
  refine TL.p (EvP.move rfl) ?_
  refine TL.p (EvP.nilP rfl) ?_
  refine TL.p (EvP.fa (e := 0) rfl Tryd.runUnderlying28 rfl Tryd.sizeOf26 rfl) ?_
  refine TL.r (EvR.load rfl Tryd.isAgg26 (AtB.own (by repeat (first | exact Has.hd | refine Has.tlb ?_ | refine Has.tlc ?_))) (by rfl)) ?_
  refine TL.p (EvP.move rfl) ?_
  refine TL.p (EvP.add rfl rfl (by omega)) ?_
  refine TL.p (EvP.sliceL (j := ((k + 1 : Nat) : Int)) Tryd.runUnderlying26 Tryd.sizeOf45 rfl rfl ⟨by omega, by omega⟩) ?_
  refine TL.append rfl rfl elN Tryd.underlying26 encN_ok hC1 (SrcR.drop Tryd.underlying26 encN_ok hv (k := k + 1) hk2 (by simp)) (by simp only [List.nil_append, List.length_take, List.length_drop]; omega) (by decide) (fun v2 C2 hC2 => ?_)
  refine TL.p (EvP.assign rfl) ?_
  refine TL.nil ?_
  refine TX.thenN rfl rfl ?_
  refine TC.region ?_
  refine TL.p (EvP.move rfl) ?_
  refine TL.p (EvP.move rfl) ?_
  refine TL.p (EvP.nilP rfl) ?_
  refine TL.p (EvP.fa (e := 0) rfl Tryd.runUnderlying28 rfl Tryd.sizeOf26 rfl) ?_
  refine TL.u (EvU.store1 rfl rfl Tryd.sizeOf26 (by first | rfl | (apply Sl.one; assumption)) (by repeat (first | exact Has.hd | refine Has.tlb ?_ | refine Has.tlc ?_)) (by repeat (first | exact SetL.here | apply SetL.there)) (by repeat (first | exact Upd.hd | apply Upd.tlb | apply Upd.tlc))) ?_
  refine TL.nil ?_
  refine TX.doneN rfl (Res.none rfl) (fun w hs => Post2.mk (C := [(rr, .cells [v2].toArray 28 (0, 0))]) (D := C2) hs ⟨rfl, v2, rfl, ?_⟩ (by repeat (first | exact Le.refl _ | exact Le.nil _ | refine Le.hit ?_ | refine Le.hit1 ?_ | refine Le.hit2 ?_ | refine Le.hit3 ?_ | refine Le.hit4 ?_ | refine Le.hit5 ?_ | refine Le.hit6 ?_ | refine Le.hit7 ?_ | refine Le.hit8 ?_ | refine Le.hit9 ?_ | refine Le.hit10 ?_ | refine Le.skip ?_)))
  rw [List.eraseIdx_eq_take_drop_succ]; exact hC2

theorem rdrop_no {w0 w : World} {R : List Chunk} {rr : Nat} {a : Option Addr} {cap : Nat} {L : List En} {D : Chunk} {s : Str} (hpos : pos (isN s) L = -1) (hv : Sl 45 2 En.enc (.slice a L.length cap) L D) (hok : NL L) (hst : St w0 w ([(rr, .cells [(.slice a L.length cap)].toArray 28 (0, 0))] :: D :: R)) : Calls Tryd.prog 20 #[.pointer (some ⟨rr, 0, none⟩), sv s] w (Post0 w0 ([(rr, .cells [(.slice a L.length cap)].toArray 28 (0, 0))] :: D :: R) fun u => u = .int .i64 5) := by
  have hlen := hok.len
  refine calls_of (args := [_, _]) Tryd.func20 rfl Tryd.ntmps20 hst ?_
  refine TC.seq ?_
  refine TC.region ?_
  refine TL.p (EvP.assign rfl) ?_
  refine TL.nil ?_
  refine TX.thenN rfl rfl ?_
  refine TC.seq ?_
  refine TC.region ?_
  refine TL.p (EvP.move rfl) ?_
  refine TL.p (EvP.move rfl) ?_
  refine TL.callA rfl rfl Tryd.call27 (fun w hs => rfind_spec s hv hok hs) ?_
  rintro _ rfl
  rw [hpos]
  refine TL.p (EvP.assign rfl) ?_
  refine TL.nil ?_
  refine TX.thenN rfl rfl ?_
  refine TC.seq ?_
  refine TC.seq ?_
  refine TC.region ?_
  refine TL.p (EvP.move rfl) ?_
  refine TL.p (EvP.isT (EvP.lt rfl rfl) (by omega)) ?_
  refine TL.nil ?_
  refine TX.thenN rfl rfl ?_
  refine TC.ctrue rfl ?_
  refine TC.seq ?_
  refine TC.region ?_
  refine TL.p (EvP.assign rfl) ?_
  refine TL.nil ?_
  refine TX.thenN rfl rfl ?_
  refine TC.ret ?_
  refine TX.thenR ?_
  refine TX.done rfl (Res.one rfl rfl) (fun w hs => Post0.mk hs ?_ (by repeat (first | exact Le.refl _ | exact Le.nil _ | refine Le.hit ?_ | refine Le.hit1 ?_ | refine Le.hit2 ?_ | refine Le.hit3 ?_ | refine Le.hit4 ?_ | refine Le.hit5 ?_ | refine Le.hit6 ?_ | refine Le.hit7 ?_ | refine Le.hit8 ?_ | refine Le.hit9 ?_ | refine Le.hit10 ?_ | refine Le.skip ?_)))
  rfl

theorem rdrop_yes {w0 w : World} {R : List Chunk} {rr : Nat} {a : Option Addr} {cap : Nat} {L : List En} {D : Chunk} {s : Str} {k : Nat} {x : En} (hpos : pos (isN s) L = (k : Int)) (hx : L[k]? = some x) (hv : Sl 45 2 En.enc (.slice a L.length cap) L D) (hok : NL L) (hst : St w0 w ([(rr, .cells [(.slice a L.length cap)].toArray 28 (0, 0))] :: D :: R)) : Calls Tryd.prog 20 #[.pointer (some ⟨rr, 0, none⟩), sv s] w (Post2 w0 R fun u C D2 => u = .int .i64 0 ∧ RQ rr (L.eraseIdx k) C D2) := by
  have hlen := hok.len
  have hlt := (List.getElem?_eq_some_iff.1 hx).1
  refine calls_of (args := [_, _]) Tryd.func20 rfl Tryd.ntmps20 hst ?_
  refine TC.seq ?_
  refine TC.region ?_
  refine TL.p (EvP.assign rfl) ?_
  refine TL.nil ?_
  refine TX.thenN rfl rfl ?_
  refine TC.seq ?_
  refine TC.region ?_
  refine TL.p (EvP.move rfl) ?_
  refine TL.p (EvP.move rfl) ?_
  refine TL.callA rfl rfl Tryd.call27 (fun w hs => rfind_spec s hv hok hs) ?_
  rintro _ rfl
  rw [hpos]
  refine TL.p (EvP.assign rfl) ?_
  refine TL.nil ?_
  refine TX.thenN rfl rfl ?_
  refine TC.seq ?_
  refine TC.seq ?_
  refine TC.region ?_
  refine TL.p (EvP.move rfl) ?_
  refine TL.p (EvP.isF (EvP.lt rfl rfl) (by omega)) ?_
  refine TL.nil ?_
  refine TX.thenN rfl rfl ?_
  refine TC.cfalse rfl ?_
  refine TC.skip ?_
  refine TX.thenN rfl rfl ?_
  refine TC.seq ?_
  refine TC.region ?_
  refine TL.p (EvP.move rfl) ?_
  refine TL.p (EvP.move rfl) ?_
  refine TL.callC rfl rfl Tryd.call29 (fun w hs => rout_spec (k := k) hlt hv hok hs) ?_
  rintro _ _ C2 ⟨rfl, v2, rfl, hC2⟩
  refine TL.nil ?_
  refine TX.thenN rfl rfl ?_
  refine TC.seq ?_
  refine TC.region ?_
  refine TL.p (EvP.assign rfl) ?_
  refine TL.nil ?_
  refine TX.thenN rfl rfl ?_
  refine TC.ret ?_
  refine TX.done rfl (Res.one rfl rfl) (fun w hs => Post2.mk (C := [(rr, .cells [v2].toArray 28 (0, 0))]) (D := C2) hs ⟨rfl, v2, rfl, hC2⟩ (by repeat (first | exact Le.refl _ | exact Le.nil _ | refine Le.hit ?_ | refine Le.hit1 ?_ | refine Le.hit2 ?_ | refine Le.hit3 ?_ | refine Le.hit4 ?_ | refine Le.hit5 ?_ | refine Le.hit6 ?_ | refine Le.hit7 ?_ | refine Le.hit8 ?_ | refine Le.hit9 ?_ | refine Le.hit10 ?_ | refine Le.skip ?_)))

theorem rgone_no {w0 w : World} {R : List Chunk} {rr : Nat} {a : Option Addr} {cap : Nat} {L : List En} {D : Chunk} {p : Int} (hpos : pos (isP p) L = -1) (hv : Sl 45 2 En.enc (.slice a L.length cap) L D) (hok : NL L) (hst : St w0 w ([(rr, .cells [(.slice a L.length cap)].toArray 28 (0, 0))] :: D :: R)) : Calls Tryd.prog 21 #[.pointer (some ⟨rr, 0, none⟩), .int .i64 p] w (Post0 w0 ([(rr, .cells [(.slice a L.length cap)].toArray 28 (0, 0))] :: D :: R) fun u => u = .tuple #[sv [], .bool false]) := by
  have hlen := hok.len
  refine calls_of (args := [_, _]) Tryd.func21 rfl Tryd.ntmps21 hst ?_
  refine TC.seq ?_
  refine TC.region ?_
  refine TL.p (EvP.assign rfl) ?_
  refine TL.p (EvP.assign rfl) ?_
  refine TL.nil ?_
  refine TX.thenN rfl rfl ?_
  refine TC.seq ?_
  refine TC.region ?_
  refine TL.p (EvP.move rfl) ?_
  refine TL.p (EvP.move rfl) ?_
  refine TL.callA rfl rfl Tryd.call28 (fun w hs => rwho_spec p hv hok hs) ?_
  rintro _ rfl
  rw [hpos]
  refine TL.p (EvP.assign rfl) ?_
  refine TL.nil ?_
  refine TX.thenN rfl rfl ?_
  refine TC.seq ?_
  refine TC.seq ?_
  refine TC.region ?_
  refine TL.p (EvP.move rfl) ?_
  refine TL.p (EvP.isT (EvP.lt rfl rfl) (by omega)) ?_
  refine TL.nil ?_
  refine TX.thenN rfl rfl ?_
  refine TC.ctrue rfl ?_
  refine TC.seq ?_
  refine TC.region ?_
  refine TL.p (EvP.assign rfl) ?_
  refine TL.p (EvP.assign rfl) ?_
  refine TL.nil ?_
  refine TX.thenN rfl rfl ?_
  refine TC.ret ?_
  refine TX.thenR ?_
  refine TX.done rfl (Res.two rfl rfl rfl) (fun w hs => Post0.mk hs ?_ (by repeat (first | exact Le.refl _ | exact Le.nil _ | refine Le.hit ?_ | refine Le.hit1 ?_ | refine Le.hit2 ?_ | refine Le.hit3 ?_ | refine Le.hit4 ?_ | refine Le.hit5 ?_ | refine Le.hit6 ?_ | refine Le.hit7 ?_ | refine Le.hit8 ?_ | refine Le.hit9 ?_ | refine Le.hit10 ?_ | refine Le.skip ?_)))
  rfl

theorem rgone_yes {w0 w : World} {R : List Chunk} {rr : Nat} {a : Option Addr} {cap : Nat} {L : List En} {D : Chunk} {p : Int} {k : Nat} {x : En} (hpos : pos (isP p) L = (k : Int)) (hx : L[k]? = some x) (hv : Sl 45 2 En.enc (.slice a L.length cap) L D) (hok : NL L) (hst : St w0 w ([(rr, .cells [(.slice a L.length cap)].toArray 28 (0, 0))] :: D :: R)) : Calls Tryd.prog 21 #[.pointer (some ⟨rr, 0, none⟩), .int .i64 p] w (Post2 w0 R fun u C D2 => u = .tuple #[sv x.n, .bool true] ∧ RQ rr (L.eraseIdx k) C D2) := by
  have hlen := hok.len
  have hlt := (List.getElem?_eq_some_iff.1 hx).1
  refine calls_of (args := [_, _]) Tryd.func21 rfl Tryd.ntmps21 hst ?_
  refine TC.seq ?_
  refine TC.region ?_
  refine TL.p (EvP.assign rfl) ?_
  refine TL.p (EvP.assign rfl) ?_
  refine TL.nil ?_
  refine TX.thenN rfl rfl ?_
  refine TC.seq ?_
  refine TC.region ?_
  refine TL.p (EvP.move rfl) ?_
  refine TL.p (EvP.move rfl) ?_
  refine TL.callA rfl rfl Tryd.call28 (fun w hs => rwho_spec p hv hok hs) ?_
  rintro _ rfl
  rw [hpos]
  refine TL.p (EvP.assign rfl) ?_
  refine TL.nil ?_
  refine TX.thenN rfl rfl ?_
  refine TC.seq ?_
  refine TC.seq ?_
  refine TC.region ?_
  refine TL.p (EvP.move rfl) ?_
  refine TL.p (EvP.isF (EvP.lt rfl rfl) (by omega)) ?_
  refine TL.nil ?_
  refine TX.thenN rfl rfl ?_
  refine TC.cfalse rfl ?_
  refine TC.skip ?_
  refine TX.thenN rfl rfl ?_
  refine TC.seq ?_
  refine TC.region ?_
  refine TL.p (EvP.move rfl) ?_
  refine TL.p (EvP.nilP rfl) ?_
  refine TL.p (EvP.fa (e := 0) rfl Tryd.runUnderlying28 rfl Tryd.sizeOf26 rfl) ?_
  refine TL.r (EvR.load rfl Tryd.isAgg26 (AtB.own (by repeat (first | exact Has.hd | refine Has.tlb ?_ | refine Has.tlc ?_))) (by rfl)) ?_
  refine TL.p (EvP.move rfl) ?_
  refine TL.elem (hv.el encN_ok hx (by simp)) Tryd.runUnderlying26 Tryd.sizeOf45 rfl rfl (fun bE oE lE _ _ hE hcE => ?_)
  refine TL.p (EvP.fa rfl Tryd.runUnderlying45 rfl Tryd.sizeOf9 rfl) ?_
  refine TL.r (EvR.load rfl Tryd.isAgg9 hE hcE.1) ?_
  refine TL.p (EvP.assign rfl) ?_
  refine TL.nil ?_
  refine TX.thenN rfl rfl ?_
  refine TC.seq ?_
  refine TC.region ?_
  refine TL.p (EvP.move rfl) ?_
  refine TL.p (EvP.move rfl) ?_
  refine TL.callC rfl rfl Tryd.call29 (fun w hs => rout_spec (k := k) hlt hv hok hs) ?_
  rintro _ _ C2 ⟨rfl, v2, rfl, hC2⟩
  refine TL.nil ?_
  refine TX.thenN rfl rfl ?_
  refine TC.seq ?_
  refine TC.region ?_
  refine TL.p (EvP.move rfl) ?_
  refine TL.p (EvP.assign rfl) ?_
  refine TL.p (EvP.assign rfl) ?_
  refine TL.nil ?_
  refine TX.thenN rfl rfl ?_
  refine TC.ret ?_
  refine TX.done rfl (Res.two rfl rfl rfl) (fun w hs => Post2.mk (C := [(rr, .cells [v2].toArray 28 (0, 0))]) (D := C2) hs ⟨rfl, v2, rfl, hC2⟩ (by repeat (first | exact Le.refl _ | exact Le.nil _ | refine Le.hit ?_ | refine Le.hit1 ?_ | refine Le.hit2 ?_ | refine Le.hit3 ?_ | refine Le.hit4 ?_ | refine Le.hit5 ?_ | refine Le.hit6 ?_ | refine Le.hit7 ?_ | refine Le.hit8 ?_ | refine Le.hit9 ?_ | refine Le.hit10 ?_ | refine Le.skip ?_)))

theorem rget_no {w0 w : World} {R : List Chunk} {rr : Nat} {a : Option Addr} {cap : Nat} {L : List En} {D : Chunk} {s : Str} (hpos : pos (isN s) L = -1) (hv : Sl 45 2 En.enc (.slice a L.length cap) L D) (hok : NL L) (hst : St w0 w ([(rr, .cells [(.slice a L.length cap)].toArray 28 (0, 0))] :: D :: R)) : Calls Tryd.prog 22 #[.pointer (some ⟨rr, 0, none⟩), sv s] w (Post0 w0 ([(rr, .cells [(.slice a L.length cap)].toArray 28 (0, 0))] :: D :: R) fun u => u = .tuple #[.int .i64 0, .bool false]) := by
  have hlen := hok.len
  refine calls_of (args := [_, _]) Tryd.func22 rfl Tryd.ntmps22 hst ?_
  refine TC.seq ?_
  refine TC.region ?_
  refine TL.p (EvP.assign rfl) ?_
  refine TL.p (EvP.assign rfl) ?_
  refine TL.nil ?_
  refine TX.thenN rfl rfl ?_
  refine TC.seq ?_
  refine TC.region ?_
  refine TL.p (EvP.move rfl) ?_
  refine TL.p (EvP.move rfl) ?_
  refine TL.callA rfl rfl Tryd.call27 (fun w hs => rfind_spec s hv hok hs) ?_
  rintro _ rfl
  rw [hpos]
  refine TL.p (EvP.assign rfl) ?_
  refine TL.nil ?_
  refine TX.thenN rfl rfl ?_
  refine TC.seq ?_
  refine TC.seq ?_
  refine TC.region ?_
  refine TL.p (EvP.move rfl) ?_
  refine TL.p (EvP.isT (EvP.lt rfl rfl) (by omega)) ?_
  refine TL.nil ?_
  refine TX.thenN rfl rfl ?_
  refine TC.ctrue rfl ?_
  refine TC.seq ?_
  refine TC.region ?_
  refine TL.p (EvP.assign rfl) ?_
  refine TL.p (EvP.assign rfl) ?_
  refine TL.nil ?_
  refine TX.thenN rfl rfl ?_
  refine TC.ret ?_
  refine TX.thenR ?_
  refine TX.done rfl (Res.two rfl rfl rfl) (fun w hs => Post0.mk hs ?_ (by repeat (first | exact Le.refl _ | exact Le.nil _ | refine Le.hit ?_ | refine Le.hit1 ?_ | refine Le.hit2 ?_ | refine Le.hit3 ?_ | refine Le.hit4 ?_ | refine Le.hit5 ?_ | refine Le.hit6 ?_ | refine Le.hit7 ?_ | refine Le.hit8 ?_ | refine Le.hit9 ?_ | refine Le.hit10 ?_ | refine Le.skip ?_)))
  rfl

theorem rget_yes {w0 w : World} {R : List Chunk} {rr : Nat} {a : Option Addr} {cap : Nat} {L : List En} {D : Chunk} {s : Str} {k : Nat} {x : En} (hpos : pos (isN s) L = (k : Int)) (hx : L[k]? = some x) (hv : Sl 45 2 En.enc (.slice a L.length cap) L D) (hok : NL L) (hst : St w0 w ([(rr, .cells [(.slice a L.length cap)].toArray 28 (0, 0))] :: D :: R)) : Calls Tryd.prog 22 #[.pointer (some ⟨rr, 0, none⟩), sv s] w (Post0 w0 ([(rr, .cells [(.slice a L.length cap)].toArray 28 (0, 0))] :: D :: R) fun u => u = .tuple #[.int .i64 x.p, .bool true]) := by
  have hlen := hok.len
  have hlt := (List.getElem?_eq_some_iff.1 hx).1
  refine calls_of (args := [_, _]) Tryd.func22 rfl Tryd.ntmps22 hst ?_
  refine TC.seq ?_
  refine TC.region ?_
  refine TL.p (EvP.assign rfl) ?_
  refine TL.p (EvP.assign rfl) ?_
  refine TL.nil ?_
  refine TX.thenN rfl rfl ?_
  refine TC.seq ?_
  refine TC.region ?_
  refine TL.p (EvP.move rfl) ?_
  refine TL.p (EvP.move rfl) ?_
  refine TL.callA rfl rfl Tryd.call27 (fun w hs => rfind_spec s hv hok hs) ?_
  rintro _ rfl
  rw [hpos]
  refine TL.p (EvP.assign rfl) ?_
  refine TL.nil ?_
  refine TX.thenN rfl rfl ?_
  refine TC.seq ?_
  refine TC.seq ?_
  refine TC.region ?_
  refine TL.p (EvP.move rfl) ?_
  refine TL.p (EvP.isF (EvP.lt rfl rfl) (by omega)) ?_
  refine TL.nil ?_
  refine TX.thenN rfl rfl ?_
  refine TC.cfalse rfl ?_
  refine TC.skip ?_
  refine TX.thenN rfl rfl ?_
  refine TC.seq ?_
  refine TC.region ?_
  refine TL.p (EvP.move rfl) ?_
  refine TL.p (EvP.nilP rfl) ?_
  refine TL.p (EvP.fa (e := 0) rfl Tryd.runUnderlying28 rfl Tryd.sizeOf26 rfl) ?_
  refine TL.r (EvR.load rfl Tryd.isAgg26 (AtB.own (by repeat (first | exact Has.hd | refine Has.tlb ?_ | refine Has.tlc ?_))) (by rfl)) ?_
  refine TL.p (EvP.move rfl) ?_
  refine TL.elem (hv.el encN_ok hx (by simp)) Tryd.runUnderlying26 Tryd.sizeOf45 rfl rfl (fun bE oE lE _ _ hE hcE => ?_)
  refine TL.p (EvP.fa rfl Tryd.runUnderlying45 rfl Tryd.sizeOf2 rfl) ?_
  refine TL.r (EvR.load rfl Tryd.isAgg2 hE hcE.2.1) ?_
  refine TL.p (EvP.assign rfl) ?_
  refine TL.p (EvP.assign rfl) ?_
  refine TL.nil ?_
  refine TX.thenN rfl rfl ?_
  refine TC.ret ?_
  refine TX.done rfl (Res.two rfl rfl rfl) (fun w hs => Post0.mk hs ?_ (by repeat (first | exact Le.refl _ | exact Le.nil _ | refine Le.hit ?_ | refine Le.hit1 ?_ | refine Le.hit2 ?_ | refine Le.hit3 ?_ | refine Le.hit4 ?_ | refine Le.hit5 ?_ | refine Le.hit6 ?_ | refine Le.hit7 ?_ | refine Le.hit8 ?_ | refine Le.hit9 ?_ | refine Le.hit10 ?_ | refine Le.skip ?_)))
  rfl

theorem rname_no {w0 w : World} {R : List Chunk} {rr : Nat} {a : Option Addr} {cap : Nat} {L : List En} {D : Chunk} {p : Int} (hpos : pos (isP p) L = -1) (hv : Sl 45 2 En.enc (.slice a L.length cap) L D) (hok : NL L) (hst : St w0 w ([(rr, .cells [(.slice a L.length cap)].toArray 28 (0, 0))] :: D :: R)) : Calls Tryd.prog 23 #[.pointer (some ⟨rr, 0, none⟩), .int .i64 p] w (Post0 w0 ([(rr, .cells [(.slice a L.length cap)].toArray 28 (0, 0))] :: D :: R) fun u => u = .tuple #[sv [], .bool false]) := by
  have hlen := hok.len
  refine calls_of (args := [_, _]) Tryd.func23 rfl Tryd.ntmps23 hst ?_
  refine TC.seq ?_
  refine TC.region ?_
  refine TL.p (EvP.assign rfl) ?_
  refine TL.p (EvP.assign rfl) ?_
  refine TL.nil ?_
  refine TX.thenN rfl rfl ?_
  refine TC.seq ?_
  refine TC.region ?_
  refine TL.p (EvP.move rfl) ?_
  refine TL.p (EvP.move rfl) ?_
  refine TL.callA rfl rfl Tryd.call28 (fun w hs => rwho_spec p hv hok hs) ?_
  rintro _ rfl
  rw [hpos]
  refine TL.p (EvP.assign rfl) ?_
  refine TL.nil ?_
  refine TX.thenN rfl rfl ?_
  refine TC.seq ?_
  refine TC.seq ?_
  refine TC.region ?_
  refine TL.p (EvP.move rfl) ?_
  refine TL.p (EvP.isT (EvP.lt rfl rfl) (by omega)) ?_
  refine TL.nil ?_
  refine TX.thenN rfl rfl ?_
  refine TC.ctrue rfl ?_
  refine TC.seq ?_
  refine TC.region ?_
  refine TL.p (EvP.assign rfl) ?_
  refine TL.p (EvP.assign rfl) ?_
  refine TL.nil ?_
  refine TX.thenN rfl rfl ?_
  refine TC.ret ?_
  refine TX.thenR ?_
  refine TX.done rfl (Res.two rfl rfl rfl) (fun w hs => Post0.mk hs ?_ (by repeat (first | exact Le.refl _ | exact Le.nil _ | refine Le.hit ?_ | refine Le.hit1 ?_ | refine Le.hit2 ?_ | refine Le.hit3 ?_ | refine Le.hit4 ?_ | refine Le.hit5 ?_ | refine Le.hit6 ?_ | refine Le.hit7 ?_ | refine Le.hit8 ?_ | refine Le.hit9 ?_ | refine Le.hit10 ?_ | refine Le.skip ?_)))
  rfl

theorem rname_yes {w0 w : World} {R : List Chunk} {rr : Nat} {a : Option Addr} {cap : Nat} {L : List En} {D : Chunk} {p : Int} {k : Nat} {x : En} (hpos : pos (isP p) L = (k : Int)) (hx : L[k]? = some x) (hv : Sl 45 2 En.enc (.slice a L.length cap) L D) (hok : NL L) (hst : St w0 w ([(rr, .cells [(.slice a L.length cap)].toArray 28 (0, 0))] :: D :: R)) : Calls Tryd.prog 23 #[.pointer (some ⟨rr, 0, none⟩), .int .i64 p] w (Post0 w0 ([(rr, .cells [(.slice a L.length cap)].toArray 28 (0, 0))] :: D :: R) fun u => u = .tuple #[sv x.n, .bool true]) := by
  have hlen := hok.len
  have hlt := (List.getElem?_eq_some_iff.1 hx).1
  refine calls_of (args := [_, _]) Tryd.func23 rfl Tryd.ntmps23 hst ?_
  refine TC.seq ?_
  refine TC.region ?_
  refine TL.p (EvP.assign rfl) ?_
  refine TL.p (EvP.assign rfl) ?_
  refine TL.nil ?_
  refine TX.thenN rfl rfl ?_
  refine TC.seq ?_
  refine TC.region ?_
  refine TL.p (EvP.move rfl) ?_
  refine TL.p (EvP.move rfl) ?_
  refine TL.callA rfl rfl Tryd.call28 (fun w hs => rwho_spec p hv hok hs) ?_
  rintro _ rfl
  rw [hpos]
  refine TL.p (EvP.assign rfl) ?_
  refine TL.nil ?_
  refine TX.thenN rfl rfl ?_
  refine TC.seq ?_
  refine TC.seq ?_
  refine TC.region ?_
  refine TL.p (EvP.move rfl) ?_
  refine TL.p (EvP.isF (EvP.lt rfl rfl) (by omega)) ?_
  refine TL.nil ?_
  refine TX.thenN rfl rfl ?_
  refine TC.cfalse rfl ?_
  refine TC.skip ?_
  refine TX.thenN rfl rfl ?_
  refine TC.seq ?_
  refine TC.region ?_
  refine TL.p (EvP.move rfl) ?_
  refine TL.p (EvP.nilP rfl) ?_
  refine TL.p (EvP.fa (e := 0) rfl Tryd.runUnderlying28 rfl Tryd.sizeOf26 rfl) ?_
  refine TL.r (EvR.load rfl Tryd.isAgg26 (AtB.own (by repeat (first | exact Has.hd | refine Has.tlb ?_ | refine Has.tlc ?_))) (by rfl)) ?_
  refine TL.p (EvP.move rfl) ?_
  refine TL.elem (hv.el encN_ok hx (by simp)) Tryd.runUnderlying26 Tryd.sizeOf45 rfl rfl (fun bE oE lE _ _ hE hcE => ?_)
  refine TL.p (EvP.fa rfl Tryd.runUnderlying45 rfl Tryd.sizeOf9 rfl) ?_
  refine TL.r (EvR.load rfl Tryd.isAgg9 hE hcE.1) ?_
  refine TL.p (EvP.assign rfl) ?_
  refine TL.p (EvP.assign rfl) ?_
  refine TL.nil ?_
  refine TX.thenN rfl rfl ?_
  refine TC.ret ?_
  refine TX.done rfl (Res.two rfl rfl rfl) (fun w hs => Post0.mk hs ?_ (by repeat (first | exact Le.refl _ | exact Le.nil _ | refine Le.hit ?_ | refine Le.hit1 ?_ | refine Le.hit2 ?_ | refine Le.hit3 ?_ | refine Le.hit4 ?_ | refine Le.hit5 ?_ | refine Le.hit6 ?_ | refine Le.hit7 ?_ | refine Le.hit8 ?_ | refine Le.hit9 ?_ | refine Le.hit10 ?_ | refine Le.skip ?_)))
  rfl

theorem radd_raw {w0 w : World} {R : List Chunk} {rr : Nat} {a : Option Addr} {cap : Nat} {L : List En} {D : Chunk} (s : Str) (p : Int) (hv : Sl 45 2 En.enc (.slice a L.length cap) L D) (hok : NL L) (hst : St w0 w ([(rr, .cells [(.slice a L.length cap)].toArray 28 (0, 0))] :: D :: R)) : Calls Tryd.prog 19 #[.pointer (some ⟨rr, 0, none⟩), sv s, .int .i64 p] w (Post2 w0 R fun u C D2 => u = .int .i64 (add L s p).1 ∧ RQ rr (add L s p).2 C D2) := by
  have hlen := hok.len
  refine calls_of (args := [_, _, _]) Tryd.func19 rfl Tryd.ntmps19 hst ?_
  refine TC.seq ?_
  refine TC.region ?_
  refine TL.p (EvP.assign rfl) ?_
  refine TL.nil ?_
  refine TX.thenN rfl rfl ?_
  refine TC.seq ?_
  refine TC.seq ?_
  refine TC.region ?_
  refine TL.p (EvP.move rfl) ?_
  refine TL.dec (EvP.eqS rfl rfl) (fun h10 => ?_) (fun h10 => ?_)
  · refine TL.p (EvP.move rfl) ?_
    refine TL.gN rfl rfl rfl ?_
    refine TL.gN rfl rfl rfl ?_
    refine TL.gN rfl rfl rfl ?_
    refine TL.gN rfl rfl rfl ?_
    refine TL.p (EvP.pickT rfl rfl) ?_
    refine TL.nil ?_
    refine TX.thenN rfl rfl ?_
    refine TC.ctrue rfl ?_
    refine TC.seq ?_
    refine TC.region ?_
    refine TL.p (EvP.assign rfl) ?_
    refine TL.nil ?_
    refine TX.thenN rfl rfl ?_
    refine TC.ret ?_
    refine TX.thenR ?_
    refine TX.done rfl (Res.one rfl rfl) (fun w hs => Post2.mk (C := [(rr, .cells [(.slice a L.length cap)].toArray 28 (0, 0))]) (D := D) hs ?_ (by repeat (first | exact Le.refl _ | exact Le.nil _ | refine Le.hit ?_ | refine Le.hit1 ?_ | refine Le.hit2 ?_ | refine Le.hit3 ?_ | refine Le.hit4 ?_ | refine Le.hit5 ?_ | refine Le.hit6 ?_ | refine Le.hit7 ?_ | refine Le.hit8 ?_ | refine Le.hit9 ?_ | refine Le.hit10 ?_ | refine Le.skip ?_)))
    rw [add_20 (by first | exact .inl (oka0 h15) | exact .inr h10)]
    exact ⟨rfl, _, rfl, hv⟩
  · refine TL.p (EvP.move rfl) ?_
    refine TL.gY rfl rfl rfl ?_
    refine TL.p (EvP.move rfl) ?_
    refine TL.gY rfl rfl rfl ?_
    refine TL.p (EvP.buildS (is := [0, 2]) (xs := [_, _]) rfl Tryd.runUnderlying48 Tryd.zeroValue48 rfl (.cons Tryd.sizeOf3 (.cons Tryd.sizeOf2 (.cons Tryd.sizeOf9 .nil))) rfl rfl rfl) ?_
    refine TL.gY rfl rfl rfl ?_
    refine TL.callA rfl rfl Tryd.call18 (fun w hs => cell_atom s hs) ?_
    rintro _ rfl
    refine TL.gY rfl rfl rfl ?_
    refine TL.dec (EvP.ne rfl rfl) (fun h15 => ?_) (fun h15 => ?_)
    · refine TL.p (EvP.pickF rfl rfl) ?_
      refine TL.nil ?_
      refine TX.thenN rfl rfl ?_
      refine TC.ctrue rfl ?_
      refine TC.seq ?_
      refine TC.region ?_
      refine TL.p (EvP.assign rfl) ?_
      refine TL.nil ?_
      refine TX.thenN rfl rfl ?_
      refine TC.ret ?_
      refine TX.thenR ?_
      refine TX.done rfl (Res.one rfl rfl) (fun w hs => Post2.mk (C := [(rr, .cells [(.slice a L.length cap)].toArray 28 (0, 0))]) (D := D) hs ?_ (by repeat (first | exact Le.refl _ | exact Le.nil _ | refine Le.hit ?_ | refine Le.hit1 ?_ | refine Le.hit2 ?_ | refine Le.hit3 ?_ | refine Le.hit4 ?_ | refine Le.hit5 ?_ | refine Le.hit6 ?_ | refine Le.hit7 ?_ | refine Le.hit8 ?_ | refine Le.hit9 ?_ | refine Le.hit10 ?_ | refine Le.skip ?_)))
      rw [add_20 (by first | exact .inl (oka0 h15) | exact .inr h10)]
      exact ⟨rfl, _, rfl, hv⟩
    · refine TL.p (EvP.pickF rfl rfl) ?_
      refine TL.nil ?_
      refine TX.thenN rfl rfl ?_
      refine TC.cfalse rfl ?_
      refine TC.skip ?_
      refine TX.thenN rfl rfl ?_
      refine TC.seq ?_
      refine TC.seq ?_
      refine TC.region ?_
      refine TL.p (EvP.move rfl) ?_
      refine TL.dec (EvP.lt rfl rfl) (fun h18 => ?_) (fun h18 => ?_)
      · refine TL.p (EvP.move rfl) ?_
        refine TL.gN rfl rfl rfl ?_
        refine TL.gN rfl rfl rfl ?_
        refine TL.p (EvP.pickT rfl rfl) ?_
        refine TL.nil ?_
        refine TX.thenN rfl rfl ?_
        refine TC.ctrue rfl ?_
        refine TC.seq ?_
        refine TC.region ?_
        refine TL.p (EvP.assign rfl) ?_
        refine TL.nil ?_
        refine TX.thenN rfl rfl ?_
        refine TC.ret ?_
        refine TX.thenR ?_
        refine TX.done rfl (Res.one rfl rfl) (fun w hs => Post2.mk (C := [(rr, .cells [(.slice a L.length cap)].toArray 28 (0, 0))]) (D := D) hs ?_ (by repeat (first | exact Le.refl _ | exact Le.nil _ | refine Le.hit ?_ | refine Le.hit1 ?_ | refine Le.hit2 ?_ | refine Le.hit3 ?_ | refine Le.hit4 ?_ | refine Le.hit5 ?_ | refine Le.hit6 ?_ | refine Le.hit7 ?_ | refine Le.hit8 ?_ | refine Le.hit9 ?_ | refine Le.hit10 ?_ | refine Le.skip ?_)))
        rw [add_1 (okn h15 h10) (by simp only [okPid, decide_eq_false_iff_not]; omega)]
        exact ⟨rfl, _, rfl, hv⟩
      · refine TL.p (EvP.move rfl) ?_
        refine TL.gY rfl rfl rfl ?_
        refine TL.p (EvP.move rfl) ?_
        refine TL.gY rfl rfl rfl ?_
        refine TL.dec (EvP.gt rfl rfl) (fun h21 => ?_) (fun h21 => ?_)
        · refine TL.p (EvP.pickF rfl rfl) ?_
          refine TL.nil ?_
          refine TX.thenN rfl rfl ?_
          refine TC.ctrue rfl ?_
          refine TC.seq ?_
          refine TC.region ?_
          refine TL.p (EvP.assign rfl) ?_
          refine TL.nil ?_
          refine TX.thenN rfl rfl ?_
          refine TC.ret ?_
          refine TX.thenR ?_
          refine TX.done rfl (Res.one rfl rfl) (fun w hs => Post2.mk (C := [(rr, .cells [(.slice a L.length cap)].toArray 28 (0, 0))]) (D := D) hs ?_ (by repeat (first | exact Le.refl _ | exact Le.nil _ | refine Le.hit ?_ | refine Le.hit1 ?_ | refine Le.hit2 ?_ | refine Le.hit3 ?_ | refine Le.hit4 ?_ | refine Le.hit5 ?_ | refine Le.hit6 ?_ | refine Le.hit7 ?_ | refine Le.hit8 ?_ | refine Le.hit9 ?_ | refine Le.hit10 ?_ | refine Le.skip ?_)))
          rw [add_1 (okn h15 h10) (by simp only [okPid, decide_eq_false_iff_not]; omega)]
          exact ⟨rfl, _, rfl, hv⟩
        · refine TL.p (EvP.pickF rfl rfl) ?_
          refine TL.nil ?_
          refine TX.thenN rfl rfl ?_
          refine TC.cfalse rfl ?_
          refine TC.skip ?_
          refine TX.thenN rfl rfl ?_
          refine TC.seq ?_
          refine TC.seq ?_
          refine TC.region ?_
          refine TL.p (EvP.move rfl) ?_
          refine TL.p (EvP.move rfl) ?_
          refine TL.callA rfl rfl Tryd.call27 (fun w hs => rfind_spec s hv hok hs) ?_
          rintro _ rfl
          refine TL.dec (EvP.ge rfl rfl) (fun h26 => ?_) (fun h26 => ?_)
          · refine TL.p (EvP.move rfl) ?_
            refine TL.gN rfl rfl rfl ?_
            refine TL.gN rfl rfl rfl ?_
            refine TL.gN rfl rfl rfl ?_
            refine TL.gN rfl rfl rfl ?_
            refine TL.p (EvP.pickT rfl rfl) ?_
            refine TL.nil ?_
            refine TX.thenN rfl rfl ?_
            refine TC.ctrue rfl ?_
            refine TC.seq ?_
            refine TC.region ?_
            refine TL.p (EvP.assign rfl) ?_
            refine TL.nil ?_
            refine TX.thenN rfl rfl ?_
            refine TC.ret ?_
            refine TX.thenR ?_
            refine TX.done rfl (Res.one rfl rfl) (fun w hs => Post2.mk (C := [(rr, .cells [(.slice a L.length cap)].toArray 28 (0, 0))]) (D := D) hs ?_ (by repeat (first | exact Le.refl _ | exact Le.nil _ | refine Le.hit ?_ | refine Le.hit1 ?_ | refine Le.hit2 ?_ | refine Le.hit3 ?_ | refine Le.hit4 ?_ | refine Le.hit5 ?_ | refine Le.hit6 ?_ | refine Le.hit7 ?_ | refine Le.hit8 ?_ | refine Le.hit9 ?_ | refine Le.hit10 ?_ | refine Le.skip ?_)))
            rw [radd_6 (okn h15 h10) (by simp only [okPid, decide_eq_true_eq]; omega) (by omega)]
            exact ⟨rfl, _, rfl, hv⟩
          · refine TL.p (EvP.move rfl) ?_
            refine TL.gY rfl rfl rfl ?_
            refine TL.p (EvP.move rfl) ?_
            refine TL.gY rfl rfl rfl ?_
            refine TL.p (EvP.move rfl) ?_
            refine TL.gY rfl rfl rfl ?_
            refine TL.callA rfl rfl Tryd.call28 (fun w hs => rwho_spec p hv hok hs) ?_
            rintro _ rfl
            refine TL.gY rfl rfl rfl ?_
            refine TL.dec (EvP.ge rfl rfl) (fun h31 => ?_) (fun h31 => ?_)
            · refine TL.p (EvP.pickF rfl rfl) ?_
              refine TL.nil ?_
              refine TX.thenN rfl rfl ?_
              refine TC.ctrue rfl ?_
              refine TC.seq ?_
              refine TC.region ?_
              refine TL.p (EvP.assign rfl) ?_
              refine TL.nil ?_
              refine TX.thenN rfl rfl ?_
              refine TC.ret ?_
              refine TX.thenR ?_
              refine TX.done rfl (Res.one rfl rfl) (fun w hs => Post2.mk (C := [(rr, .cells [(.slice a L.length cap)].toArray 28 (0, 0))]) (D := D) hs ?_ (by repeat (first | exact Le.refl _ | exact Le.nil _ | refine Le.hit ?_ | refine Le.hit1 ?_ | refine Le.hit2 ?_ | refine Le.hit3 ?_ | refine Le.hit4 ?_ | refine Le.hit5 ?_ | refine Le.hit6 ?_ | refine Le.hit7 ?_ | refine Le.hit8 ?_ | refine Le.hit9 ?_ | refine Le.hit10 ?_ | refine Le.skip ?_)))
              rw [radd_6 (okn h15 h10) (by simp only [okPid, decide_eq_true_eq]; omega) (by omega)]
              exact ⟨rfl, _, rfl, hv⟩
            · refine TL.p (EvP.pickF rfl rfl) ?_
              refine TL.nil ?_
              refine TX.thenN rfl rfl ?_
              refine TC.cfalse rfl ?_
              refine TC.skip ?_
              refine TX.thenN rfl rfl ?_
              refine TC.seq ?_
              refine TC.seq ?_
              refine TC.region ?_
              refine TL.p (EvP.move rfl) ?_
              refine TL.p (EvP.nilP rfl) ?_
              refine TL.p (EvP.fa (e := 0) rfl Tryd.runUnderlying28 rfl Tryd.sizeOf26 rfl) ?_
              refine TL.r (EvR.load rfl Tryd.isAgg26 (AtB.own (by repeat (first | exact Has.hd | refine Has.tlb ?_ | refine Has.tlc ?_))) (by rfl)) ?_
              refine TL.p (EvP.lenS Tryd.runUnderlying26 rfl) ?_
              refine TL.dec (EvP.ge rfl rfl) (fun h38 => ?_) (fun h38 => ?_)
              · refine TL.nil ?_
                refine TX.thenN rfl rfl ?_
                refine TC.ctrue rfl ?_
                refine TC.seq ?_
                refine TC.region ?_
                refine TL.p (EvP.assign rfl) ?_
                refine TL.nil ?_
                refine TX.thenN rfl rfl ?_
                refine TC.ret ?_
                refine TX.thenR ?_
                refine TX.done rfl (Res.one rfl rfl) (fun w hs => Post2.mk (C := [(rr, .cells [(.slice a L.length cap)].toArray 28 (0, 0))]) (D := D) hs ?_ (by repeat (first | exact Le.refl _ | exact Le.nil _ | refine Le.hit ?_ | refine Le.hit1 ?_ | refine Le.hit2 ?_ | refine Le.hit3 ?_ | refine Le.hit4 ?_ | refine Le.hit5 ?_ | refine Le.hit6 ?_ | refine Le.hit7 ?_ | refine Le.hit8 ?_ | refine Le.hit9 ?_ | refine Le.hit10 ?_ | refine Le.skip ?_)))
                rw [radd_8 (okn h15 h10) (by simp only [okPid, decide_eq_true_eq]; omega) (by omega) (by omega) (by omega)]
                exact ⟨rfl, _, rfl, hv⟩
              · refine TL.nil ?_
                refine TX.thenN rfl rfl ?_
                refine TC.cfalse rfl ?_
                refine TC.skip ?_
                refine TX.thenN rfl rfl ?_
                refine TC.seq ?_
                refine TC.region ?_
                refine TL.p (EvP.move rfl) ?_
                refine TL.p (EvP.nilP rfl) ?_
                refine TL.p (EvP.fa (e := 0) rfl Tryd.runUnderlying28 rfl Tryd.sizeOf26 rfl) ?_
                refine TL.r (EvR.load rfl Tryd.isAgg26 (AtB.own (by repeat (first | exact Has.hd | refine Has.tlb ?_ | refine Has.tlc ?_))) (by rfl)) ?_
                refine TL.p (EvP.lenS Tryd.runUnderlying26 rfl) ?_
                refine TL.p (EvP.assign rfl) ?_
                refine TL.nil ?_
                refine TX.thenN rfl rfl ?_
                refine TC.seq ?_
                refine TC.block ?_
                refine TC.loop (ι := Nat) (fun k => [(0, .pointer (some ⟨rr, 0, none⟩)), (1, sv s), (2, .int .i64 p), (7, .int .i64 k)]) (fun k => [(rr, .cells [(.slice a L.length cap)].toArray 28 (0, 0))] :: D :: R) (fun k => k ≤ L.length ∧ ∀ x ∈ L.drop k, s < x.n) (fun k => k) (L.length) (⟨Nat.le_refl _, by simp⟩) ⟨rfl, rfl, rfl, rfl, trivial⟩ (by repeat (first | exact Le.refl _ | exact Le.nil _ | refine Le.hit ?_ | refine Le.hit1 ?_ | refine Le.hit2 ?_ | refine Le.hit3 ?_ | refine Le.hit4 ?_ | refine Le.hit5 ?_ | refine Le.hit6 ?_ | refine Le.hit7 ?_ | refine Le.hit8 ?_ | refine Le.hit9 ?_ | refine Le.hit10 ?_ | refine Le.skip ?_)) ?_
                rintro k ⟨hk, hall⟩
                change TC _ _ [(0, .pointer (some ⟨rr, 0, none⟩)), (1, sv s), (2, .int .i64 p), (7, .int .i64 k)] ([(rr, .cells [(.slice a L.length cap)].toArray 28 (0, 0))] :: D :: R) _
                refine TC.seq ?_
                refine TC.seq ?_
                refine TC.region ?_
                refine TL.p (EvP.move rfl) ?_
                refine TL.dec (EvP.gt rfl rfl) (fun h45 => ?_) (fun h45 => ?_)
                · refine TL.p (EvP.move rfl) ?_
                  refine TL.gY rfl rfl rfl ?_
                  refine TL.p (EvP.move rfl) ?_
                  refine TL.gY rfl rfl rfl ?_
                  refine TL.p (EvP.nilP rfl) ?_
                  refine TL.gY rfl rfl rfl ?_
                  refine TL.p (EvP.fa (e := 0) rfl Tryd.runUnderlying28 rfl Tryd.sizeOf26 rfl) ?_
                  refine TL.gY rfl rfl rfl ?_
                  refine TL.r (EvR.load rfl Tryd.isAgg26 (AtB.own (by repeat (first | exact Has.hd | refine Has.tlb ?_ | refine Has.tlc ?_))) (by rfl)) ?_
                  refine TL.gY rfl rfl rfl ?_
                  refine TL.p (EvP.move rfl) ?_
                  refine TL.gY rfl rfl rfl ?_
                  obtain ⟨q, rfl⟩ : ∃ q, k = q + 1 := ⟨k - 1, by omega⟩
                  obtain ⟨x, hx⟩ : ∃ x, L[q]? = some x := ⟨_, List.getElem?_eq_getElem (by omega)⟩
                  refine TL.p (EvP.isV (EvP.sub rfl rfl (by omega)) (sub_one q)) ?_
                  refine TL.gY rfl rfl rfl ?_
                  refine TL.elem (hv.el encN_ok hx (by simp)) Tryd.runUnderlying26 Tryd.sizeOf45 rfl rfl (fun bE oE lE _ _ hE hcE => ?_)
                  refine TL.gY rfl rfl rfl ?_
                  refine TL.p (EvP.fa rfl Tryd.runUnderlying45 rfl Tryd.sizeOf9 rfl) ?_
                  refine TL.gY rfl rfl rfl ?_
                  refine TL.r (EvR.load rfl Tryd.isAgg9 hE hcE.1) ?_
                  refine TL.gY rfl rfl rfl ?_
                  refine TL.p (EvP.move rfl) ?_
                  refine TL.gY rfl rfl rfl ?_
                  refine TL.dec (EvP.gtS rfl rfl) (fun h57 => ?_) (fun h57 => ?_)
                  · refine TL.p (EvP.pickT rfl rfl) ?_
                    refine TL.nil ?_
                    refine TX.thenN rfl rfl ?_
                    refine TC.ctrue rfl ?_
                    refine TC.skip ?_
                    refine TX.thenN rfl rfl ?_
                    refine TC.block ?_
                    refine TC.region ?_
                    refine TL.p (EvP.move rfl) ?_
                    refine TL.p (EvP.isV (EvP.sub rfl rfl (by omega)) (sub_one q)) ?_
                    refine TL.p (EvP.assign rfl) ?_
                    refine TL.nil ?_
                    refine TX.blkN ?_
                    refine TX.back (q) (⟨by omega, ins_step hx hall h57⟩) (by omega) ⟨rfl, rfl, rfl, rfl, trivial⟩ (by repeat (first | exact Le.refl _ | exact Le.nil _ | refine Le.hit ?_ | refine Le.hit1 ?_ | refine Le.hit2 ?_ | refine Le.hit3 ?_ | refine Le.hit4 ?_ | refine Le.hit5 ?_ | refine Le.hit6 ?_ | refine Le.hit7 ?_ | refine Le.hit8 ?_ | refine Le.hit9 ?_ | refine Le.hit10 ?_ | refine Le.skip ?_))
                  · refine TL.p (EvP.pickT rfl rfl) ?_
                    refine TL.nil ?_
                    refine TX.thenN rfl rfl ?_
                    refine TC.cfalse rfl ?_
                    refine TC.exit ?_
                    refine TX.thenE ?_
                    refine TX.thenE ?_
                    refine TX.blkH ?_
                    refine TX.thenN rfl rfl ?_
                    refine TC.seq ?_
                    refine TC.region ?_
                    have hk1 : q + 1 ≤ L.length := hk
                    have hle := le_at hok hx h57 hk1
                    have hins : insE ⟨s, p⟩ L = L.take (q + 1) ++ (⟨s, p⟩ : En) :: L.drop (q + 1) := insE_at (e := ⟨s, p⟩) hle hall
                    have hcap := hv.capOk
                    have hsp := hv.spotOk
                    refine TL.p (EvP.assign rfl) ?_
                    refine TL.nil ?_
                    refine TX.thenN rfl rfl ?_
                    refine TC.seq ?_
                    refine TC.region ?_
                    refine TL.p (EvP.move rfl) ?_
                    refine TL.p (EvP.move rfl) ?_
                    refine TL.p (EvP.nilP rfl) ?_
                    refine TL.p (EvP.fa (e := 0) rfl Tryd.runUnderlying28 rfl Tryd.sizeOf26 rfl) ?_
                    refine TL.r (EvR.load rfl Tryd.isAgg26 (AtB.own (by repeat (first | exact Has.hd | refine Has.tlb ?_ | refine Has.tlc ?_))) (by rfl)) ?_
                    refine TL.p (EvP.move rfl) ?_
                    refine TL.p (EvP.sliceH (j := ((q + 1 : Nat) : Int)) Tryd.runUnderlying26 Tryd.sizeOf45 rfl rfl ⟨by omega, by omega⟩ (by intro p e; exact hsp p e)) ?_
                    refine TL.le Le.nilC ?_
                    refine TL.append (C := []) (xs := []) rfl rfl elN Tryd.underlying26 encN_ok Sl.nil (SrcR.take Tryd.underlying26 encN_ok hv (k := (q + 1)) hk1 (by simp)) (by rw [List.length_take]; simp only [List.length_nil]; omega) (by decide) (fun v1 C1 hC1 => ?_)
                    refine TL.p (EvP.assign rfl) ?_
                    refine TL.nil ?_
                    refine TX.thenN rfl rfl ?_
                    refine TC.seq ?_
                    refine TC.region ?_
                    refine TL.p (EvP.move rfl) ?_
                    refine TL.p (EvP.move rfl) ?_
                    refine TL.p (EvP.move rfl) ?_
                    refine TL.p (EvP.buildS (is := [0, 1]) (xs := [_, _]) rfl Tryd.runUnderlying45 Tryd.zeroValue45 rfl (.cons Tryd.sizeOf9 (.cons Tryd.sizeOf2 .nil)) rfl rfl rfl) ?_
                    refine TL.lit1 ((⟨s, p⟩ : En)) rfl elN Tryd.underlying26 (by decide) (by decide) encN_ok rfl (fun u1 D2 hD2 => ?_)
                    refine TL.le (Le.hit1 (Le.refl _)) ?_
                    refine TL.append rfl rfl elN Tryd.underlying26 encN_ok hC1 (SrcR.sl Tryd.underlying26 encN_ok hD2 (by simp)) (by simp only [List.nil_append, List.length_take, List.length_singleton]; omega) (by decide) (fun v3 C4 hC4 => ?_)
                    refine TL.p (EvP.assign rfl) ?_
                    refine TL.nil ?_
                    refine TX.thenN rfl rfl ?_
                    refine TC.seq ?_
                    refine TC.region ?_
                    refine TL.p (EvP.move rfl) ?_
                    refine TL.p (EvP.move rfl) ?_
                    refine TL.p (EvP.nilP rfl) ?_
                    refine TL.p (EvP.fa (e := 0) rfl Tryd.runUnderlying28 rfl Tryd.sizeOf26 rfl) ?_
                    refine TL.r (EvR.load rfl Tryd.isAgg26 (AtB.own (by repeat (first | exact Has.hd | refine Has.tlb ?_ | refine Has.tlc ?_))) (by rfl)) ?_
                    refine TL.p (EvP.move rfl) ?_
                    refine TL.p (EvP.sliceL (j := ((q + 1 : Nat) : Int)) Tryd.runUnderlying26 Tryd.sizeOf45 rfl rfl ⟨by omega, by omega⟩) ?_
                    refine TL.append rfl rfl elN Tryd.underlying26 encN_ok hC4 (SrcR.drop Tryd.underlying26 encN_ok hv (k := q + 1) hk1 (by simp)) (by simp only [List.nil_append, List.length_append, List.length_take, List.length_drop, List.length_singleton]; omega) (by decide) (fun v9 C9 hC9 => ?_)
                    refine TL.p (EvP.assign rfl) ?_
                    refine TL.nil ?_
                    refine TX.thenN rfl rfl ?_
                    refine TC.seq ?_
                    refine TC.region ?_
                    refine TL.p (EvP.move rfl) ?_
                    refine TL.p (EvP.move rfl) ?_
                    refine TL.p (EvP.nilP rfl) ?_
                    refine TL.p (EvP.fa (e := 0) rfl Tryd.runUnderlying28 rfl Tryd.sizeOf26 rfl) ?_
                    refine TL.u (EvU.store1 rfl rfl Tryd.sizeOf26 (by first | rfl | (apply Sl.one; assumption)) (by repeat (first | exact Has.hd | refine Has.tlb ?_ | refine Has.tlc ?_)) (by repeat (first | exact SetL.here | apply SetL.there)) (by repeat (first | exact Upd.hd | apply Upd.tlb | apply Upd.tlc))) ?_
                    refine TL.nil ?_
                    refine TX.thenN rfl rfl ?_
                    refine TC.seq ?_
                    refine TC.region ?_
                    refine TL.p (EvP.assign rfl) ?_
                    refine TL.nil ?_
                    refine TX.thenN rfl rfl ?_
                    refine TC.ret ?_
                    refine TX.done rfl (Res.one rfl rfl) (fun w hs => Post2.mk (C := [(rr, .cells [v9].toArray 28 (0, 0))]) (D := C9) hs ?_ (by repeat (first | exact Le.refl _ | exact Le.nil _ | refine Le.hit ?_ | refine Le.hit1 ?_ | refine Le.hit2 ?_ | refine Le.hit3 ?_ | refine Le.hit4 ?_ | refine Le.hit5 ?_ | refine Le.hit6 ?_ | refine Le.hit7 ?_ | refine Le.hit8 ?_ | refine Le.hit9 ?_ | refine Le.hit10 ?_ | refine Le.skip ?_)))
                    rw [radd_0 (okn h15 h10) (by simp only [okPid, decide_eq_true_eq]; omega) (by omega) (by omega) (by omega)]
                    refine ⟨rfl, v9, rfl, ?_⟩
                    rw [hins]
                    simpa using hC9
                · refine TL.p (EvP.move rfl) ?_
                  refine TL.gN rfl rfl rfl ?_
                  refine TL.gN rfl rfl rfl ?_
                  refine TL.gN rfl rfl rfl ?_
                  refine TL.gN rfl rfl rfl ?_
                  refine TL.gN rfl rfl rfl ?_
                  refine TL.gN rfl rfl rfl ?_
                  refine TL.gN rfl rfl rfl ?_
                  refine TL.gN rfl rfl rfl ?_
                  refine TL.gN rfl rfl rfl ?_
                  refine TL.gN rfl rfl rfl ?_
                  refine TL.gN rfl rfl rfl ?_
                  refine TL.p (EvP.pickF rfl rfl) ?_
                  refine TL.nil ?_
                  refine TX.thenN rfl rfl ?_
                  refine TC.cfalse rfl ?_
                  refine TC.exit ?_
                  refine TX.thenE ?_
                  refine TX.thenE ?_
                  refine TX.blkH ?_
                  refine TX.thenN rfl rfl ?_
                  refine TC.seq ?_
                  refine TC.region ?_
                  have hk1 : k ≤ L.length := hk
                  have hle := hok.take_le (s := s) hk1 (fun q x e => by omega)
                  have hins : insE ⟨s, p⟩ L = L.take (k) ++ (⟨s, p⟩ : En) :: L.drop (k) := insE_at (e := ⟨s, p⟩) hle hall
                  have hcap := hv.capOk
                  have hsp := hv.spotOk
                  refine TL.p (EvP.assign rfl) ?_
                  refine TL.nil ?_
                  refine TX.thenN rfl rfl ?_
                  refine TC.seq ?_
                  refine TC.region ?_
                  refine TL.p (EvP.move rfl) ?_
                  refine TL.p (EvP.move rfl) ?_
                  refine TL.p (EvP.nilP rfl) ?_
                  refine TL.p (EvP.fa (e := 0) rfl Tryd.runUnderlying28 rfl Tryd.sizeOf26 rfl) ?_
                  refine TL.r (EvR.load rfl Tryd.isAgg26 (AtB.own (by repeat (first | exact Has.hd | refine Has.tlb ?_ | refine Has.tlc ?_))) (by rfl)) ?_
                  refine TL.p (EvP.move rfl) ?_
                  refine TL.p (EvP.sliceH (j := ((k : Nat) : Int)) Tryd.runUnderlying26 Tryd.sizeOf45 rfl rfl ⟨by omega, by omega⟩ (by intro p e; exact hsp p e)) ?_
                  refine TL.le Le.nilC ?_
                  refine TL.append (C := []) (xs := []) rfl rfl elN Tryd.underlying26 encN_ok Sl.nil (SrcR.take Tryd.underlying26 encN_ok hv (k := (k)) hk1 (by simp)) (by rw [List.length_take]; simp only [List.length_nil]; omega) (by decide) (fun v1 C1 hC1 => ?_)
                  refine TL.p (EvP.assign rfl) ?_
                  refine TL.nil ?_
                  refine TX.thenN rfl rfl ?_
                  refine TC.seq ?_
                  refine TC.region ?_
                  refine TL.p (EvP.move rfl) ?_
                  refine TL.p (EvP.move rfl) ?_
                  refine TL.p (EvP.move rfl) ?_
                  refine TL.p (EvP.buildS (is := [0, 1]) (xs := [_, _]) rfl Tryd.runUnderlying45 Tryd.zeroValue45 rfl (.cons Tryd.sizeOf9 (.cons Tryd.sizeOf2 .nil)) rfl rfl rfl) ?_
                  refine TL.lit1 ((⟨s, p⟩ : En)) rfl elN Tryd.underlying26 (by decide) (by decide) encN_ok rfl (fun u5 D6 hD6 => ?_)
                  refine TL.le (Le.hit1 (Le.refl _)) ?_
                  refine TL.append rfl rfl elN Tryd.underlying26 encN_ok hC1 (SrcR.sl Tryd.underlying26 encN_ok hD6 (by simp)) (by simp only [List.nil_append, List.length_take, List.length_singleton]; omega) (by decide) (fun v7 C8 hC8 => ?_)
                  refine TL.p (EvP.assign rfl) ?_
                  refine TL.nil ?_
                  refine TX.thenN rfl rfl ?_
                  refine TC.seq ?_
                  refine TC.region ?_
                  refine TL.p (EvP.move rfl) ?_
                  refine TL.p (EvP.move rfl) ?_
                  refine TL.p (EvP.nilP rfl) ?_
                  refine TL.p (EvP.fa (e := 0) rfl Tryd.runUnderlying28 rfl Tryd.sizeOf26 rfl) ?_
                  refine TL.r (EvR.load rfl Tryd.isAgg26 (AtB.own (by repeat (first | exact Has.hd | refine Has.tlb ?_ | refine Has.tlc ?_))) (by rfl)) ?_
                  refine TL.p (EvP.move rfl) ?_
                  refine TL.p (EvP.sliceL (j := ((k : Nat) : Int)) Tryd.runUnderlying26 Tryd.sizeOf45 rfl rfl ⟨by omega, by omega⟩) ?_
                  refine TL.append rfl rfl elN Tryd.underlying26 encN_ok hC8 (SrcR.drop Tryd.underlying26 encN_ok hv (k := k) hk1 (by simp)) (by simp only [List.nil_append, List.length_append, List.length_take, List.length_drop, List.length_singleton]; omega) (by decide) (fun v9 C9 hC9 => ?_)
                  refine TL.p (EvP.assign rfl) ?_
                  refine TL.nil ?_
                  refine TX.thenN rfl rfl ?_
                  refine TC.seq ?_
                  refine TC.region ?_
                  refine TL.p (EvP.move rfl) ?_
                  refine TL.p (EvP.move rfl) ?_
                  refine TL.p (EvP.nilP rfl) ?_
                  refine TL.p (EvP.fa (e := 0) rfl Tryd.runUnderlying28 rfl Tryd.sizeOf26 rfl) ?_
                  refine TL.u (EvU.store1 rfl rfl Tryd.sizeOf26 (by first | rfl | (apply Sl.one; assumption)) (by repeat (first | exact Has.hd | refine Has.tlb ?_ | refine Has.tlc ?_)) (by repeat (first | exact SetL.here | apply SetL.there)) (by repeat (first | exact Upd.hd | apply Upd.tlb | apply Upd.tlc))) ?_
                  refine TL.nil ?_
                  refine TX.thenN rfl rfl ?_
                  refine TC.seq ?_
                  refine TC.region ?_
                  refine TL.p (EvP.assign rfl) ?_
                  refine TL.nil ?_
                  refine TX.thenN rfl rfl ?_
                  refine TC.ret ?_
                  refine TX.done rfl (Res.one rfl rfl) (fun w hs => Post2.mk (C := [(rr, .cells [v9].toArray 28 (0, 0))]) (D := C9) hs ?_ (by repeat (first | exact Le.refl _ | exact Le.nil _ | refine Le.hit ?_ | refine Le.hit1 ?_ | refine Le.hit2 ?_ | refine Le.hit3 ?_ | refine Le.hit4 ?_ | refine Le.hit5 ?_ | refine Le.hit6 ?_ | refine Le.hit7 ?_ | refine Le.hit8 ?_ | refine Le.hit9 ?_ | refine Le.hit10 ?_ | refine Le.skip ?_)))
                  rw [radd_0 (okn h15 h10) (by simp only [okPid, decide_eq_true_eq]; omega) (by omega) (by omega) (by omega)]
                  refine ⟨rfl, v9, rfl, ?_⟩
                  rw [hins]
                  simpa using hC9

theorem same_spec {w0 w : World} {H : List Chunk} {u v : Value} {xs : List En} (he1 : Els (fun w => St w0 w H) u 2 En.enc 45 xs) (he2 : Els (fun w => St w0 w H) v 2 En.enc 45 xs) (hsz : xs.length < 4611686018427387904) (hst : St w0 w H) : Calls Tryd.prog 10 #[u, v] w (Post0 w0 H fun u => u = .bool true) := by
  obtain ⟨⟨a1, cap1, rfl⟩, h1⟩ := he1
  obtain ⟨⟨a2, cap2, rfl⟩, h2⟩ := he2
  refine calls_of (args := [_, _]) Tryd.func10 rfl Tryd.ntmps10 hst ?_
  refine TC.seq ?_
  refine TC.region ?_
  refine TL.p (EvP.assign rfl) ?_
  refine TL.nil ?_
  refine TX.thenN rfl rfl ?_
  refine TC.seq ?_
  refine TC.seq ?_
  refine TC.region ?_
  refine TL.p (EvP.move rfl) ?_
  refine TL.p (EvP.lenS Tryd.runUnderlying26 rfl) ?_
  refine TL.p (EvP.move rfl) ?_
  refine TL.p (EvP.lenS Tryd.runUnderlying26 rfl) ?_
  refine TL.p (EvP.isF (EvP.ne rfl rfl) (by simp)) ?_
  refine TL.nil ?_
  refine TX.thenN rfl rfl ?_
  refine TC.cfalse rfl ?_
  refine TC.skip ?_
  refine TX.thenN rfl rfl ?_
  refine TC.seq ?_
  refine TC.seq ?_
  refine TC.region ?_
  refine TL.p (EvP.assign rfl) ?_
  refine TL.nil ?_
  refine TX.thenN rfl rfl ?_
  refine TC.block ?_
  refine TC.loop (ι := Nat) (fun i => [(0, .slice a1 xs.length cap1), (1, .slice a2 xs.length cap2), (5, .int .i64 i)]) (fun i => H) (fun i => i ≤ xs.length) (fun i => xs.length - i) (0) (Nat.zero_le _) ⟨rfl, rfl, rfl, trivial⟩ (by repeat (first | exact Le.refl _ | exact Le.nil _ | refine Le.hit ?_ | refine Le.hit1 ?_ | refine Le.hit2 ?_ | refine Le.hit3 ?_ | refine Le.hit4 ?_ | refine Le.hit5 ?_ | refine Le.hit6 ?_ | refine Le.hit7 ?_ | refine Le.hit8 ?_ | refine Le.hit9 ?_ | refine Le.hit10 ?_ | refine Le.skip ?_)) ?_
  rintro i hi
  change TC _ _ [(0, .slice a1 xs.length cap1), (1, .slice a2 xs.length cap2), (5, .int .i64 i)] (H) _
  refine TC.seq ?_
  refine TC.seq ?_
  refine TC.region ?_
  refine TL.p (EvP.move rfl) ?_
  refine TL.p (EvP.move rfl) ?_
  refine TL.p (EvP.lenS Tryd.runUnderlying26 rfl) ?_
  refine TL.dec (EvP.lt rfl rfl) (fun h14 => ?_) (fun h14 => ?_)
  · refine TL.nil ?_
    refine TX.thenN rfl rfl ?_
    refine TC.ctrue rfl ?_
    refine TC.skip ?_
    refine TX.thenN rfl rfl ?_
    refine TC.seq ?_
    refine TC.block ?_
    refine TC.seq ?_
    refine TC.drawn (listed := #[false, false, false, false, false, false, false, false, false]) 9 (fun w => St w0 w H) rfl rfl rfl rfl (fun _ hs => hs) ?_
    refine TR.take 0 rfl (by kernel_rfl) (by kernel_rfl) (by kernel_rfl) (EvP.r (by exact EvP.move rfl)) (l' := #[true, false, false, false, false, false, false, false, false]) rfl ?_
    refine TR.take 1 rfl (by kernel_rfl) (by kernel_rfl) (by kernel_rfl) (EvP.r (by exact EvP.move rfl)) (l' := #[true, true, false, false, false, false, false, false, false]) rfl ?_
    have hlt : i < xs.length := by omega
    obtain ⟨x, hx⟩ : ∃ x, xs[i]? = some x := ⟨_, List.getElem?_eq_getElem hlt⟩
    obtain ⟨c1, o1, n1, k1, l1, _, _, q1, hj1, hb1, hc1⟩ := h1 i x hx
    obtain ⟨c2, o2, n2, k2, l2, _, _, q2, hj2, hb2, hc2⟩ := h2 i x hx
    cases q1
    cases q2
    refine TR.take 2 rfl (by kernel_rfl) (by kernel_rfl) (by kernel_rfl) (EvP.r (by exact EvP.ix (j := (i : Int)) Tryd.runUnderlying26 Tryd.sizeOf45 rfl rfl ⟨by omega, by omega⟩)) (l' := #[true, true, true, false, false, false, false, false, false]) rfl ?_
    refine TR.take 3 rfl (by kernel_rfl) (by kernel_rfl) (by kernel_rfl) (EvR.loadN (vs := [_, _]) rfl Tryd.isAgg45 Tryd.sizeOf45 hb1 hc1) (l' := #[true, true, true, true, false, false, false, false, false]) rfl ?_
    refine TR.take 4 rfl (by kernel_rfl) (by kernel_rfl) (by kernel_rfl) (EvP.r (by exact EvP.move rfl)) (l' := #[true, true, true, true, true, false, false, false, false]) rfl ?_
    refine TR.take 5 rfl (by kernel_rfl) (by kernel_rfl) (by kernel_rfl) (EvP.r (by exact EvP.move rfl)) (l' := #[true, true, true, true, true, true, false, false, false]) rfl ?_
    refine TR.take 6 rfl (by kernel_rfl) (by kernel_rfl) (by kernel_rfl) (EvP.r (by exact EvP.ix (j := (i : Int)) Tryd.runUnderlying26 Tryd.sizeOf45 rfl rfl ⟨by omega, by omega⟩)) (l' := #[true, true, true, true, true, true, true, false, false]) rfl ?_
    refine TR.take 7 rfl (by kernel_rfl) (by kernel_rfl) (by kernel_rfl) (EvR.loadN (vs := [_, _]) rfl Tryd.isAgg45 Tryd.sizeOf45 hb2 hc2) (l' := #[true, true, true, true, true, true, true, true, false]) rfl ?_
    refine TR.take 8 rfl (by kernel_rfl) (by kernel_rfl) (by kernel_rfl) (EvP.r (neSame x)) (l' := #[true, true, true, true, true, true, true, true, true]) rfl ?_
    refine TR.done (by kernel_rfl) ?_
    refine TX.thenN rfl rfl ?_
    refine TC.cfalse rfl ?_
    refine TC.skip ?_
    refine TX.blkN ?_
    refine TX.thenN rfl rfl ?_
    refine TC.region ?_
    refine TL.p (EvP.move rfl) ?_
    refine TL.p (EvP.add rfl rfl (by omega)) ?_
    refine TL.p (EvP.assign rfl) ?_
    refine TL.nil ?_
    refine TX.back (i + 1) (by omega) (by omega) ⟨rfl, rfl, rfl, trivial⟩ (by repeat (first | exact Le.refl _ | exact Le.nil _ | refine Le.hit ?_ | refine Le.hit1 ?_ | refine Le.hit2 ?_ | refine Le.hit3 ?_ | refine Le.hit4 ?_ | refine Le.hit5 ?_ | refine Le.hit6 ?_ | refine Le.hit7 ?_ | refine Le.hit8 ?_ | refine Le.hit9 ?_ | refine Le.hit10 ?_ | refine Le.skip ?_))
  · refine TL.nil ?_
    refine TX.thenN rfl rfl ?_
    refine TC.cfalse rfl ?_
    refine TC.exit ?_
    refine TX.thenE ?_
    refine TX.thenE ?_
    refine TX.blkH ?_
    refine TX.thenN rfl rfl ?_
    refine TC.seq ?_
    refine TC.region ?_
    refine TL.p (EvP.assign rfl) ?_
    refine TL.nil ?_
    refine TX.thenN rfl rfl ?_
    refine TC.ret ?_
    refine TX.done rfl (Res.one rfl rfl) (fun w hs => Post0.mk hs ?_ (by repeat (first | exact Le.refl _ | exact Le.nil _ | refine Le.hit ?_ | refine Le.hit1 ?_ | refine Le.hit2 ?_ | refine Le.hit3 ?_ | refine Le.hit4 ?_ | refine Le.hit5 ?_ | refine Le.hit6 ?_ | refine Le.hit7 ?_ | refine Le.hit8 ?_ | refine Le.hit9 ?_ | refine Le.hit10 ?_ | refine Le.skip ?_)))
    rfl

section
variable {w0 w : World} {R : List Chunk} {L : List En} {rr : Nat} {C D : Chunk}
theorem r_add (hR : RQ rr L C D) (hok : NL L) (s : Str) (p : Int) (hst : St w0 w (C :: D :: R)) : Calls Tryd.prog 19 #[.pointer (some ⟨rr, 0, none⟩), sv s, .int .i64 p] w (Post2 w0 R fun u C D => u = .int .i64 (add L s p).1 ∧ RQ rr (add L s p).2 C D) := by
  obtain ⟨a, cap, rfl, hv⟩ := hR.open_
  exact radd_raw s p hv hok hst
theorem calls2 {P : Program} {f : FuncId} {args : Array Value} {C D : Chunk} {post : Value → Prop} {Q : Value → Chunk → Chunk → Prop} (h : Calls P f args w (Post0 w0 (C :: D :: R) post)) (hQ : ∀ u, post u → Q u C D) : Calls P f args w (Post2 w0 R Q) := calls2of0 h hQ
theorem calls22 {P : Program} {f : FuncId} {args : Array Value} {post Q : Value → Chunk → Chunk → Prop} (h : Calls P f args w (Post2 w0 R post)) (hQ : ∀ u C D, post u C D → Q u C D) : Calls P f args w (Post2 w0 R Q) :=
  h.mono fun e w' => by
    rintro ⟨v, Hq, rfl, ⟨C, D, rfl, hp⟩, hs⟩
    exact ⟨v, _, rfl, ⟨C, D, rfl, hQ v C D hp⟩, hs⟩
theorem r_drop (hR : RQ rr L C D) (hok : NL L) (s : Str) (hst : St w0 w (C :: D :: R)) : Calls Tryd.prog 20 #[.pointer (some ⟨rr, 0, none⟩), sv s] w (Post2 w0 R fun u C D => u = .int .i64 (drp L s).1 ∧ RQ rr (drp L s).2 C D) := by
  obtain ⟨a, cap, rfl, hv⟩ := hR.open_
  unfold drp
  rw [any_find]
  rcases pos_cases (p := isN s) (L := L) with ⟨h1, h2, _⟩ | ⟨k, x, h1, h2, h3, h4⟩
  · rw [h2]
    exact calls2 (rdrop_no h1 hv hok hst) (fun u e => ⟨e, _, rfl, hv⟩)
  · rw [h4]
    have hx : x.n = s := by simpa [isN] using h3
    exact calls22 (rdrop_yes h1 h2 hv hok hst) (fun u C D ⟨e1, e2⟩ => ⟨e1, by rw [hok.outAt h2, hx] at e2; exact e2⟩)
theorem r_gone (hR : RQ rr L C D) (hok : NL L) (p : Int) (hst : St w0 w (C :: D :: R)) : Calls Tryd.prog 21 #[.pointer (some ⟨rr, 0, none⟩), .int .i64 p] w (Post2 w0 R fun u C D => u = .tuple #[sv (fndP L p).1, .bool (fndP L p).2] ∧ RQ rr (gonL L p) C D) := by
  obtain ⟨a, cap, rfl, hv⟩ := hR.open_
  unfold fndP gonL
  rcases pos_cases (p := isP p) (L := L) with ⟨h1, h2, _⟩ | ⟨k, x, h1, h2, h3, h4⟩
  · rw [h2]
    exact calls2 (rgone_no h1 hv hok hst) (fun u e => ⟨e, _, rfl, hv⟩)
  · rw [h4]
    exact calls22 (rgone_yes h1 h2 hv hok hst) (fun u C D ⟨e1, e2⟩ => ⟨e1, by rw [hok.outAt h2] at e2; exact e2⟩)
theorem r_find (hR : RQ rr L C D) (hok : NL L) (s : Str) (hst : St w0 w (C :: D :: R)) : Calls Tryd.prog 22 #[.pointer (some ⟨rr, 0, none⟩), sv s] w (Post2 w0 R fun u C' D' => u = .tuple #[.int .i64 (fndN L s).1, .bool (fndN L s).2] ∧ RQ rr L C' D') := by
  obtain ⟨a, cap, rfl, hv⟩ := hR.open_
  unfold fndN
  rcases pos_cases (p := isN s) (L := L) with ⟨h1, h2, _⟩ | ⟨k, x, h1, h2, h3, h4⟩
  · rw [h2]
    exact calls2 (rget_no h1 hv hok hst) (fun u e => ⟨e, _, rfl, hv⟩)
  · rw [h4]
    exact calls2 (rget_yes h1 h2 hv hok hst) (fun u e => ⟨e, _, rfl, hv⟩)
theorem r_name (hR : RQ rr L C D) (hok : NL L) (p : Int) (hst : St w0 w (C :: D :: R)) : Calls Tryd.prog 23 #[.pointer (some ⟨rr, 0, none⟩), .int .i64 p] w (Post2 w0 R fun u C' D' => u = .tuple #[sv (fndP L p).1, .bool (fndP L p).2] ∧ RQ rr L C' D') := by
  obtain ⟨a, cap, rfl, hv⟩ := hR.open_
  unfold fndP
  rcases pos_cases (p := isP p) (L := L) with ⟨h1, h2, _⟩ | ⟨k, x, h1, h2, h3, h4⟩
  · rw [h2]
    exact calls2 (rname_no h1 hv hok hst) (fun u e => ⟨e, _, rfl, hv⟩)
  · rw [h4]
    exact calls2 (rname_yes h1 h2 hv hok hst) (fun u e => ⟨e, _, rfl, hv⟩)
end
end Go.Proofs.YtocohlcmkbnegaaDoor
