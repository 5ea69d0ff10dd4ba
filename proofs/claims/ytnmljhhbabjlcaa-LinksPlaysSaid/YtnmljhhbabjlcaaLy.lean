/-
  The walk of LinksPlays: whatever the script and the two pids, it answers true.
-/
import Derived.Test.YtnmljhhbabjlcaaLw
set_option linter.unusedSimpArgs false
set_option linter.unusedVariables false
set_option maxRecDepth 100000
namespace Go.Proofs.Ytnmljhhbabjlcaa
open Go Go.RowKit

theorem beq_same (b : Bool) : Value.bool (b == b) = Value.bool true := by cases b <;> rfl
theorem pls_len {L : List Bond} {p : Int} (h : L.length ≤ 1024) : (pls L p).length ≤ 1024 := by
  unfold pls peersOf
  rw [srt_len, List.length_map]
  exact Nat.le_trans (List.length_filter_le _ _) (Nat.le_trans (List.length_filter_le _ _) h)
theorem lkd_peer {L : List Bond} (h : LOk L) {p q : Int} (hq : q ∈ pls L p) : lkd L p q = true := by
  have ha : Adj L p q := (mem_peers h).1 (srt_mem.1 hq)
  obtain ⟨b, hb, hr, hc⟩ := ha
  have h1 := h.ok b hb
  have h2 := h1.2.2.2 hr
  have hpq : okPid p = true ∧ okPid q = true ∧ p ≠ q ∧ pairB p q = b := by
    rcases hc with ⟨e1, e2⟩ | ⟨e1, e2⟩
    · subst e1; subst e2
      refine ⟨h1.1, h1.2.1, by omega, ?_⟩
      cases b
      simp only [pairB] at *
      simp only [Bond.mk.injEq]
      omega
    · subst e1; subst e2
      refine ⟨h1.2.1, h1.1, by omega, ?_⟩
      cases b
      simp only [pairB] at *
      simp only [Bond.mk.injEq]
      omega
  unfold lkd okTwo
  rw [hpq.1, hpq.2.1, hpq.2.2.2]
  simp [hb, hpq.2.2.1]
theorem Els.take {α : Type} {S : World → Prop} {a : Option Addr} {n cap k : Nat} {enc : α → List Value} {T : TypeId} {xs : List α} (h : Els S (.slice a n cap) k enc T xs) {j : Nat} (hj : j ≤ xs.length) : Els S (.slice a j cap) k enc T (xs.take j) := by
  refine ⟨⟨a, cap, by rw [List.length_take, Nat.min_eq_left hj]⟩, fun i x hx => ?_⟩
  have hi : i < j := by
    have := (List.getElem?_eq_some_iff.1 hx).1
    rw [List.length_take] at this; omega
  rw [List.getElem?_take_of_lt hi] at hx
  obtain ⟨b, off, len, cp, l, T', fz, e, hl, hb, hc⟩ := h.2 i x hx
  cases e
  exact ⟨b, off, j, _, l, T', fz, rfl, hi, hb, hc⟩
theorem Sl.capOk {α : Type} {T n : Nat} {enc : α → List Value} {a : Option Addr} {len cap : Nat} {xs : List α} {C : Chunk} (h : Sl T n enc (.slice a len cap) xs C) : xs.length ≤ cap := by
  obtain ⟨_, _, e, h1, _⟩ := h.len
  cases e; exact h1
theorem Sl.spotOk {α : Type} {T n : Nat} {enc : α → List Value} {a : Option Addr} {len cap : Nat} {xs : List α} {C : Chunk} (h : Sl T n enc (.slice a len cap) xs C) : ∀ p, a = some p → p.spot = none := by
  obtain ⟨_, _, e, _, h2⟩ := h.len
  cases e; exact h2
theorem r_linked {w0 w : World} {R : List Chunk} {L : List Bond} {rr : Nat} {Cr D : Chunk} (hR : RQ rr L Cr D) (hl : L.length ≤ 1024) (a b : Int) (hst : St w0 w (Cr :: D :: R)) : Calls Try.prog 48 #[.pointer (some ⟨rr, 0, none⟩), .int .i64 a, .int .i64 b] w (Post0 w0 (Cr :: D :: R) fun u => u = .bool (lkd L a b)) := by
  obtain ⟨a0, cap, rfl, hv⟩ := hR.open_
  exact rlinked_raw a b hv hl hst

theorem asked_spec {w0 w : World} {R : List Chunk} {k : Int} {L : List Bond} {g rr : Nat} {C Cr D : Chunk} (hG : IsG k L g C) (hR : RQ rr L Cr D) (a b : Int) (hst : St w0 w (C :: Cr :: D :: R)) : Calls Try.prog 27 #[.pointer (some ⟨g, 0, none⟩), .pointer (some ⟨rr, 0, none⟩), .int .i64 a, .int .i64 b] w (Post0 w0 (C :: Cr :: D :: R) fun u => u = .bool true) := by
  have hll := hG.ok.len
  have hlo : (ofL L a).length ≤ 1024 := Nat.le_trans (List.length_filter_le _ _) hll
  have hlp : (pls L a).length ≤ 1024 := pls_len hll
  have hlg := grp_len hG.ok (p := a)
  refine calls_of (args := [_, _, _, _]) Try.func27 rfl Try.ntmps27 hst ?_
  refine TC.seq ?_
  refine TC.region ?_
  refine TL.p (EvP.assign rfl) ?_
  refine TL.nil ?_
  refine TX.thenN rfl rfl ?_
  refine TC.seq ?_
  refine TC.region ?_
  refine TL.p (EvP.move rfl) ?_
  refine TL.p (EvP.move rfl) ?_
  refine TL.callB rfl rfl Try.call21 (fun w hs => g_of hG (pid := a) (most := 2048) (by omega) hs) ?_
  rintro _ CO ho
  rw [List.take_of_length_le (by show (ofL L a).length ≤ 2048; omega)] at ho
  refine TL.p (EvP.move rfl) ?_
  refine TL.p (EvP.move rfl) ?_
  refine TL.le (Le.hit2 (Le.hit2 (Le.refl _))) ?_
  refine TL.callB rfl rfl Try.call18 (fun w hs => r_of hR hll a hs) ?_
  rintro _ CW hw
  refine TL.callA rfl rfl Try.call14 (fun w hs => bonds_spec (ho.els encB_ok (by simp)) (hw.els encB_ok (by simp)) (by omega) hs) ?_
  rintro _ rfl
  refine TL.p (EvP.move rfl) ?_
  refine TL.gY rfl rfl rfl ?_
  refine TL.p (EvP.move rfl) ?_
  refine TL.gY rfl rfl rfl ?_
  refine TL.p (EvP.move rfl) ?_
  refine TL.gY rfl rfl rfl ?_
  refine TL.le (Le.hit4 (Le.refl _)) ?_
  refine TL.callB rfl rfl Try.call25 (fun w hs => g_peers hG a hs) ?_
  rintro _ CP hp
  refine TL.gY rfl rfl rfl ?_
  refine TL.p (EvP.move rfl) ?_
  refine TL.gY rfl rfl rfl ?_
  refine TL.p (EvP.move rfl) ?_
  refine TL.gY rfl rfl rfl ?_
  refine TL.le (Le.hit3 (Le.hit3 (Le.refl _))) ?_
  refine TL.callB rfl rfl Try.call46 (fun w hs => r_peers hG.ok hR a hs) ?_
  rintro _ CQ hq
  refine TL.gY rfl rfl rfl ?_
  refine TL.callA rfl rfl Try.call24 (fun w hs => pids_spec (hp.els encI_ok (by simp)) (hq.els encI_ok (by simp)) (by omega) hs) ?_
  rintro _ rfl
  refine TL.p (EvP.pickT rfl rfl) ?_
  refine TL.p (EvP.move rfl) ?_
  refine TL.gY rfl rfl rfl ?_
  refine TL.p (EvP.move rfl) ?_
  refine TL.gY rfl rfl rfl ?_
  refine TL.p (EvP.move rfl) ?_
  refine TL.gY rfl rfl rfl ?_
  refine TL.le (Le.hit4 (Le.refl _)) ?_
  refine TL.callB rfl rfl Try.call23 (fun w hs => g_group hG a hs) ?_
  rintro _ CG hg
  refine TL.gY rfl rfl rfl ?_
  refine TL.p (EvP.move rfl) ?_
  refine TL.gY rfl rfl rfl ?_
  refine TL.p (EvP.move rfl) ?_
  refine TL.gY rfl rfl rfl ?_
  refine TL.le (Le.hit3 (Le.hit3 (Le.refl _))) ?_
  refine TL.callB rfl rfl Try.call47 (fun w hs => r_group hG.ok hR a hs) ?_
  rintro _ CH hh
  refine TL.gY rfl rfl rfl ?_
  refine TL.callA rfl rfl Try.call24 (fun w hs => pids_spec (hg.els encI_ok (by simp)) (hh.els encI_ok (by simp)) (by omega) hs) ?_
  rintro _ rfl
  refine TL.p (EvP.pickT rfl rfl) ?_
  refine TL.p (EvP.move rfl) ?_
  refine TL.gY rfl rfl rfl ?_
  refine TL.p (EvP.move rfl) ?_
  refine TL.gY rfl rfl rfl ?_
  refine TL.p (EvP.move rfl) ?_
  refine TL.gY rfl rfl rfl ?_
  refine TL.p (EvP.move rfl) ?_
  refine TL.gY rfl rfl rfl ?_
  refine TL.le (Le.hit4 (Le.refl _)) ?_
  refine TL.callB rfl rfl Try.call26 (fun w hs => g_linked hG a b hs) ?_
  rintro _ C9 ⟨rfl, hC9⟩
  replace hC9 := hC9.symm
  subst hC9
  refine TL.gY rfl rfl rfl ?_
  refine TL.p (EvP.move rfl) ?_
  refine TL.gY rfl rfl rfl ?_
  refine TL.p (EvP.move rfl) ?_
  refine TL.gY rfl rfl rfl ?_
  refine TL.p (EvP.move rfl) ?_
  refine TL.gY rfl rfl rfl ?_
  refine TL.le (Le.hit2 (Le.hit2 (Le.refl _))) ?_
  refine TL.callA rfl rfl Try.call48 (fun w hs => r_linked hR hll a b hs) ?_
  rintro _ rfl
  refine TL.gY rfl rfl rfl ?_
  refine TL.p (EvP.isV (EvP.eqBool Try.runUnderlying4 rfl rfl) (beq_same _)) ?_
  refine TL.p (EvP.pickT rfl rfl) ?_
  refine TL.p (EvP.assign rfl) ?_
  refine TL.nil ?_
  refine TX.thenN rfl rfl ?_
  refine TC.ret ?_
  refine TX.done rfl (Res.one rfl rfl) (fun w hs => Post0.mk hs ?_ (by repeat (first | exact Le.refl _ | exact Le.nil _ | refine Le.hit ?_ | refine Le.hit1 ?_ | refine Le.hit2 ?_ | refine Le.hit3 ?_ | refine Le.hit4 ?_ | refine Le.hit5 ?_ | refine Le.hit6 ?_ | refine Le.hit7 ?_ | refine Le.hit8 ?_ | refine Le.hit9 ?_ | refine Le.hit10 ?_ | refine Le.skip ?_)))
  rfl

theorem plays_walk {w0 w : World} {R : List Chunk} {v : Value} {ops : List LOp} (he : Els (fun w => w = w0) v 4 LOp.enc 23 ops) (hsz : ops.length < 4611686018427387904) (a b : Int) (hst : St w0 w R) : Calls Try.prog 7 #[v, .int .i64 a, .int .i64 b] w (Post0 w0 R fun u => u = .bool true) := by
  obtain ⟨⟨a0, cap, rfl⟩, _⟩ := id he
  refine calls_of (args := [_, _, _]) Try.func7 rfl Try.ntmps7 hst ?_
  refine TC.seq ?_
  refine TC.region ?_
  refine TL.p (EvP.assign rfl) ?_
  refine TL.nil ?_
  refine TX.thenN rfl rfl ?_
  refine TC.seq ?_
  refine TC.region ?_
  refine TL.callB rfl rfl Try.call9 (fun w hs => new_spec hs) ?_
  rintro _ C ⟨g, rfl, hG⟩
  refine TL.p (EvP.buildS (is := []) (xs := []) rfl Try.runUnderlying29 Try.zeroValue29 rfl (.cons Try.sizeOf27 .nil) rfl rfl rfl) ?_
  refine TL.box rfl rfl (fun b15 => ?_)
  refine TL.le (Le.hit Le.nilC) ?_
  refine TL.p (EvP.assign rfl) ?_
  refine TL.p (EvP.assign rfl) ?_
  refine TL.nil ?_
  refine TX.thenN rfl rfl ?_
  refine TC.seq ?_
  refine TC.seq ?_
  refine TC.region ?_
  refine TL.p (EvP.move rfl) ?_
  refine TL.p (EvP.eqPtrNil Try.runUnderlying24 rfl rfl) ?_
  refine TL.nil ?_
  refine TX.thenN rfl rfl ?_
  refine TC.cfalse rfl ?_
  refine TC.skip ?_
  refine TX.thenN rfl rfl ?_
  refine TC.seq ?_
  refine TC.seq ?_
  refine TC.region ?_
  refine TL.p (EvP.move rfl) ?_
  refine TL.p (EvP.lenS Try.runUnderlying38 rfl) ?_
  refine TL.p (EvP.move rfl) ?_
  refine TL.nil ?_
  refine TX.thenN rfl rfl ?_
  refine TC.block ?_
  refine TC.loop (ι := Nat × List Bond × Chunk × Chunk × Chunk) (fun (i, L, C, Cr, D) => [(7, .pointer (some ⟨g, 0, none⟩)), (8, .pointer (some ⟨b15, 0, none⟩)), (18, .slice a0 ops.length cap), (19, .int .i64 ops.length), (20, .int .i64 i), (1, .int .i64 a), (2, .int .i64 b)]) (fun (i, L, C, Cr, D) => C :: Cr :: D :: R) (fun (i, L, C, Cr, D) => i ≤ ops.length ∧ IsG i L g C ∧ RQ b15 L Cr D) (fun (i, L, C, Cr, D) => ops.length - i) ((0, [], C, [(b15, .cells [.slice none 0 0].toArray 29 (0, 0))], [])) (⟨by omega, hG, _, rfl, Sl.nil⟩) ⟨rfl, rfl, rfl, rfl, rfl, rfl, rfl, trivial⟩ (by repeat (first | exact Le.refl _ | exact Le.nil _ | refine Le.hit ?_ | refine Le.hit1 ?_ | refine Le.hit2 ?_ | refine Le.hit3 ?_ | refine Le.hit4 ?_ | refine Le.hit5 ?_ | refine Le.hit6 ?_ | refine Le.hit7 ?_ | refine Le.hit8 ?_ | refine Le.hit9 ?_ | refine Le.hit10 ?_ | refine Le.skip ?_)) ?_
  rintro ⟨i, L, C, Cr, D⟩ ⟨hi, hG, hR⟩
  change TC _ _ [(7, .pointer (some ⟨g, 0, none⟩)), (8, .pointer (some ⟨b15, 0, none⟩)), (18, .slice a0 ops.length cap), (19, .int .i64 ops.length), (20, .int .i64 i), (1, .int .i64 a), (2, .int .i64 b)] (C :: Cr :: D :: R) _
  have hll := hG.ok.len
  obtain ⟨a3, c3, rfl, hv2⟩ := hR.open_
  change TC _ _ _ (C :: [(b15, .cells [.slice a3 L.length c3].toArray 29 (0, 0))] :: D :: R) _
  refine TC.seq ?_
  refine TC.region ?_
  refine TL.dec (EvP.lt rfl rfl) (fun h21 => ?_) (fun h21 => ?_)
  · refine TL.nil ?_
    refine TX.thenN rfl rfl ?_
    refine TC.seq ?_
    refine TC.ctrue rfl ?_
    refine TC.skip ?_
    refine TX.thenN rfl rfl ?_
    refine TC.seq ?_
    refine TC.block ?_
    refine TC.seq ?_
    refine TC.region ?_
    have hlt : i < ops.length := by omega
    obtain ⟨o, hx⟩ : ∃ o, ops[i]? = some o := ⟨_, List.getElem?_eq_getElem hlt⟩
    refine TL.elem (he.came.2 i o hx) Try.runUnderlying38 Try.sizeOf23 rfl rfl (fun bE oE lE _ _ hE hcE => ?_)
    refine TL.r (EvR.loadN (vs := [_, _, _, _]) rfl Try.isAgg23 Try.sizeOf23 hE hcE) ?_
    refine TL.alloc Try.zeroValue23 rfl (fun b10 => ?_)
    refine TL.u (EvU.store rfl rfl Try.sizeOf23 rfl rfl rfl rfl (by repeat (first | exact Has.hd | refine Has.tlb ?_ | refine Has.tlc ?_)) (by repeat (first | exact SetLs.nil | exact SetL.here | apply SetLs.cons | apply SetL.there)) (by repeat (first | exact Upd.hd | apply Upd.tlb | apply Upd.tlc))) ?_
    refine TL.nil ?_
    refine TX.thenN rfl rfl ?_
    refine TC.seq ?_
    refine TC.drawn (listed := #[false, false, false, false, false, false, false, false, false, false, false, false, false, false, false]) 15 (SH w0 [[(b10, .cells o.enc.toArray 23 (0, 0))]]) rfl rfl rfl rfl (fun w hs => SH.of hs (by repeat (first | exact Le.refl _ | exact Le.nil _ | refine Le.hit ?_ | refine Le.hit1 ?_ | refine Le.hit2 ?_ | refine Le.hit3 ?_ | refine Le.hit4 ?_ | refine Le.hit5 ?_ | refine Le.hit6 ?_ | refine Le.hit7 ?_ | refine Le.hit8 ?_ | refine Le.hit9 ?_ | refine Le.hit10 ?_ | refine Le.skip ?_))) ?_
    refine TR.take 0 rfl (by kernel_rfl) (by kernel_rfl) (by kernel_rfl) (EvP.r (by exact EvP.move rfl)) (l' := #[true, false, false, false, false, false, false, false, false, false, false, false, false, false, false]) rfl ?_
    refine TR.take 1 rfl (by kernel_rfl) (by kernel_rfl) (by kernel_rfl) (EvP.r (by exact EvP.move rfl)) (l' := #[true, true, false, false, false, false, false, false, false, false, false, false, false, false, false]) rfl ?_
    refine TR.take 2 rfl (by kernel_rfl) (by kernel_rfl) (by kernel_rfl) (EvR.loadN (vs := [_, _, _, _]) rfl Try.isAgg23 Try.sizeOf23 (AtB.own' (by repeat (first | exact Has.hd | refine Has.tlb ?_ | refine Has.tlc ?_))) (by exact ⟨rfl, rfl, rfl, rfl,  trivial⟩)) (l' := #[true, true, true, false, false, false, false, false, false, false, false, false, false, false, false]) rfl ?_
    refine TR.one (i := 3) (by kernel_rfl) ?_
    refine TRi.le (Le.hit1 (Le.hit1 (Le.hit1 (Le.refl _)))) ?_
    refine TRi.call rfl rfl rfl Try.call13 (fun w hs => step_spec hG (by omega) hR o hs) (l' := #[true, true, true, true, false, false, false, false, false, false, false, false, false, false, false]) rfl ?_
    rintro _ _ ⟨C2, Cr2, D2, rfl, rfl, hG2, hR2⟩
    obtain ⟨a4, c4, rfl, hv3⟩ := hR2.open_
    have hl2 := hG2.ok.len
    refine ⟨(fun w hs => SH.of hs (by repeat (first | exact Le.refl _ | exact Le.nil _ | refine Le.hit ?_ | refine Le.hit1 ?_ | refine Le.hit2 ?_ | refine Le.hit3 ?_ | refine Le.hit4 ?_ | refine Le.hit5 ?_ | refine Le.hit6 ?_ | refine Le.hit7 ?_ | refine Le.hit8 ?_ | refine Le.hit9 ?_ | refine Le.hit10 ?_ | refine Le.skip ?_))), ?_⟩
    refine TR.take 4 rfl (by kernel_rfl) (by kernel_rfl) (by kernel_rfl) (EvP.r (by exact EvP.not rfl)) (l' := #[true, true, true, true, true, false, false, false, false, false, false, false, false, false, false]) rfl ?_
    refine TR.take 5 rfl (by kernel_rfl) (by kernel_rfl) (by kernel_rfl) (EvP.r (by exact EvP.move rfl)) (l' := #[true, true, true, true, true, true, false, false, false, false, false, false, false, false, false]) rfl ?_
    refine TR.takeY 6 rfl rfl rfl rfl (by kernel_rfl) (by kernel_rfl) (by kernel_rfl) (EvP.r (by exact EvP.move rfl)) (l' := #[true, true, true, true, true, true, true, false, false, false, false, false, false, false, false]) rfl ?_
    refine TR.takeY 8 rfl rfl rfl rfl (by kernel_rfl) (by kernel_rfl) (by kernel_rfl) (EvP.r (by exact EvP.move rfl)) (l' := #[true, true, true, true, true, true, true, false, true, false, false, false, false, false, false]) rfl ?_
    refine TR.takeY 9 rfl rfl rfl rfl (by kernel_rfl) (by kernel_rfl) (by kernel_rfl) (EvP.r (by exact EvP.nilP rfl)) (l' := #[true, true, true, true, true, true, true, false, true, true, false, false, false, false, false]) rfl ?_
    refine TR.takeY 10 rfl rfl rfl rfl (by kernel_rfl) (by kernel_rfl) (by kernel_rfl) (EvP.r (by exact EvP.fa (e := 0) rfl Try.runUnderlying29 rfl Try.sizeOf27 rfl)) (l' := #[true, true, true, true, true, true, true, false, true, true, true, false, false, false, false]) rfl ?_
    refine TR.two (i := 7) (j := 11) (by kernel_rfl) ?_ ?_
    · refine TRi.callG rfl rfl rfl rfl rfl rfl Try.call22 (fun w hs => g_len hG2 hs) (l' := #[true, true, true, true, true, true, true, true, true, true, true, false, false, false, false]) rfl ?_
      rintro _ _ ⟨C9, rfl, rfl, hC9⟩
      replace hC9 := hC9.symm
      subst hC9
      refine ⟨(fun w hs => SH.of hs (by repeat (first | exact Le.refl _ | exact Le.nil _ | refine Le.hit ?_ | refine Le.hit1 ?_ | refine Le.hit2 ?_ | refine Le.hit3 ?_ | refine Le.hit4 ?_ | refine Le.hit5 ?_ | refine Le.hit6 ?_ | refine Le.hit7 ?_ | refine Le.hit8 ?_ | refine Le.hit9 ?_ | refine Le.hit10 ?_ | refine Le.skip ?_))), ?_⟩
      refine TR.one (i := 11) (by kernel_rfl) ?_
      refine TRi.rG rfl rfl rfl rfl (EvR.load rfl Try.isAgg27 (AtB.own (by repeat (first | exact Has.hd | refine Has.tlb ?_ | refine Has.tlc ?_))) (by rfl)) ((fun w hs => SH.of hs (by repeat (first | exact Le.refl _ | exact Le.nil _ | refine Le.hit ?_ | refine Le.hit1 ?_ | refine Le.hit2 ?_ | refine Le.hit3 ?_ | refine Le.hit4 ?_ | refine Le.hit5 ?_ | refine Le.hit6 ?_ | refine Le.hit7 ?_ | refine Le.hit8 ?_ | refine Le.hit9 ?_ | refine Le.hit10 ?_ | refine Le.skip ?_)))) (l' := #[true, true, true, true, true, true, true, true, true, true, true, true, false, false, false]) rfl ?_
      refine TR.takeY 12 rfl rfl rfl rfl (by kernel_rfl) (by kernel_rfl) (by kernel_rfl) (EvP.r (by exact EvP.lenS Try.runUnderlying27 rfl)) (l' := #[true, true, true, true, true, true, true, true, true, true, true, true, true, false, false]) rfl ?_
      refine TR.takeY 13 rfl rfl rfl rfl (by kernel_rfl) (by kernel_rfl) (by kernel_rfl) (EvP.r (by exact EvP.isF (EvP.ne rfl rfl) (by simp))) (l' := #[true, true, true, true, true, true, true, true, true, true, true, true, true, true, false]) rfl ?_
      refine TR.take 14 rfl (by kernel_rfl) (by kernel_rfl) (by kernel_rfl) (EvP.r (by exact EvP.pickF rfl rfl)) (l' := #[true, true, true, true, true, true, true, true, true, true, true, true, true, true, true]) rfl ?_
      refine TR.done (by kernel_rfl) ?_
      refine TX.thenN rfl rfl ?_
      refine TC.cfalse rfl ?_
      refine TC.skip ?_
      refine TX.blkN ?_
      refine TX.thenN rfl rfl ?_
      refine TC.region ?_
      refine TL.p (EvP.add rfl rfl (by omega)) ?_
      refine TL.p (EvP.move rfl) ?_
      refine TL.nil ?_
      refine TX.back ((i + 1, _, C2, _, D2)) (⟨by omega, hG2, ⟨_, rfl, hv3⟩⟩) (by simp only; omega) ⟨rfl, rfl, rfl, rfl, rfl, rfl, rfl, trivial⟩ (by repeat (first | exact Le.refl _ | exact Le.nil _ | refine Le.hit ?_ | refine Le.hit1 ?_ | refine Le.hit2 ?_ | refine Le.hit3 ?_ | refine Le.hit4 ?_ | refine Le.hit5 ?_ | refine Le.hit6 ?_ | refine Le.hit7 ?_ | refine Le.hit8 ?_ | refine Le.hit9 ?_ | refine Le.hit10 ?_ | refine Le.skip ?_))
    · refine TRi.rG rfl rfl rfl rfl (EvR.load rfl Try.isAgg27 (AtB.own (by repeat (first | exact Has.hd | refine Has.tlb ?_ | refine Has.tlc ?_))) (by rfl)) ((fun w hs => SH.of hs (by repeat (first | exact Le.refl _ | exact Le.nil _ | refine Le.hit ?_ | refine Le.hit1 ?_ | refine Le.hit2 ?_ | refine Le.hit3 ?_ | refine Le.hit4 ?_ | refine Le.hit5 ?_ | refine Le.hit6 ?_ | refine Le.hit7 ?_ | refine Le.hit8 ?_ | refine Le.hit9 ?_ | refine Le.hit10 ?_ | refine Le.skip ?_)))) (l' := #[true, true, true, true, true, true, true, false, true, true, true, true, false, false, false]) rfl ?_
      refine TR.takeY 12 rfl rfl rfl rfl (by kernel_rfl) (by kernel_rfl) (by kernel_rfl) (EvP.r (by exact EvP.lenS Try.runUnderlying27 rfl)) (l' := #[true, true, true, true, true, true, true, false, true, true, true, true, true, false, false]) rfl ?_
      refine TR.one (i := 7) (by kernel_rfl) ?_
      refine TRi.callG rfl rfl rfl rfl rfl rfl Try.call22 (fun w hs => g_len hG2 hs) (l' := #[true, true, true, true, true, true, true, true, true, true, true, true, true, false, false]) rfl ?_
      rintro _ _ ⟨C9, rfl, rfl, hC9⟩
      replace hC9 := hC9.symm
      subst hC9
      refine ⟨(fun w hs => SH.of hs (by repeat (first | exact Le.refl _ | exact Le.nil _ | refine Le.hit ?_ | refine Le.hit1 ?_ | refine Le.hit2 ?_ | refine Le.hit3 ?_ | refine Le.hit4 ?_ | refine Le.hit5 ?_ | refine Le.hit6 ?_ | refine Le.hit7 ?_ | refine Le.hit8 ?_ | refine Le.hit9 ?_ | refine Le.hit10 ?_ | refine Le.skip ?_))), ?_⟩
      refine TR.takeY 13 rfl rfl rfl rfl (by kernel_rfl) (by kernel_rfl) (by kernel_rfl) (EvP.r (by exact EvP.isF (EvP.ne rfl rfl) (by simp))) (l' := #[true, true, true, true, true, true, true, true, true, true, true, true, true, true, false]) rfl ?_
      refine TR.take 14 rfl (by kernel_rfl) (by kernel_rfl) (by kernel_rfl) (EvP.r (by exact EvP.pickF rfl rfl)) (l' := #[true, true, true, true, true, true, true, true, true, true, true, true, true, true, true]) rfl ?_
      refine TR.done (by kernel_rfl) ?_
      refine TX.thenN rfl rfl ?_
      refine TC.cfalse rfl ?_
      refine TC.skip ?_
      refine TX.blkN ?_
      refine TX.thenN rfl rfl ?_
      refine TC.region ?_
      refine TL.p (EvP.add rfl rfl (by omega)) ?_
      refine TL.p (EvP.move rfl) ?_
      refine TL.nil ?_
      refine TX.back ((i + 1, _, C2, _, D2)) (⟨by omega, hG2, ⟨_, rfl, hv3⟩⟩) (by simp only; omega) ⟨rfl, rfl, rfl, rfl, rfl, rfl, rfl, trivial⟩ (by repeat (first | exact Le.refl _ | exact Le.nil _ | refine Le.hit ?_ | refine Le.hit1 ?_ | refine Le.hit2 ?_ | refine Le.hit3 ?_ | refine Le.hit4 ?_ | refine Le.hit5 ?_ | refine Le.hit6 ?_ | refine Le.hit7 ?_ | refine Le.hit8 ?_ | refine Le.hit9 ?_ | refine Le.hit10 ?_ | refine Le.skip ?_))
  · refine TL.nil ?_
    refine TX.thenN rfl rfl ?_
    refine TC.seq ?_
    refine TC.cfalse rfl ?_
    refine TC.exit ?_
    refine TX.thenE ?_
    refine TX.thenE ?_
    refine TX.blkH ?_
    refine TX.thenN rfl rfl ?_
    refine TC.seq ?_
    refine TC.seq ?_
    refine TC.drawn (listed := #[false, false, false, false, false, false, false, false, false, false, false, false, false, false, false, false, false]) 17 (SH w0 [[(b15, .cells [.slice a3 L.length c3].toArray 29 (0, 0))]]) rfl rfl rfl rfl (fun w hs => SH.of hs (by repeat (first | exact Le.refl _ | exact Le.nil _ | refine Le.hit ?_ | refine Le.hit1 ?_ | refine Le.hit2 ?_ | refine Le.hit3 ?_ | refine Le.hit4 ?_ | refine Le.hit5 ?_ | refine Le.hit6 ?_ | refine Le.hit7 ?_ | refine Le.hit8 ?_ | refine Le.hit9 ?_ | refine Le.hit10 ?_ | refine Le.skip ?_))) ?_
    refine TR.take 0 rfl (by kernel_rfl) (by kernel_rfl) (by kernel_rfl) (EvP.r (by exact EvP.move rfl)) (l' := #[true, false, false, false, false, false, false, false, false, false, false, false, false, false, false, false, false]) rfl ?_
    refine TR.take 1 rfl (by kernel_rfl) (by kernel_rfl) (by kernel_rfl) (EvP.r (by exact EvP.nilP rfl)) (l' := #[true, true, false, false, false, false, false, false, false, false, false, false, false, false, false, false, false]) rfl ?_
    refine TR.take 2 rfl (by kernel_rfl) (by kernel_rfl) (by kernel_rfl) (EvP.r (by exact EvP.fa (e := 0) rfl Try.runUnderlying29 rfl Try.sizeOf27 rfl)) (l' := #[true, true, true, false, false, false, false, false, false, false, false, false, false, false, false, false, false]) rfl ?_
    refine TR.take 3 rfl (by kernel_rfl) (by kernel_rfl) (by kernel_rfl) (EvR.load rfl Try.isAgg27 (AtB.own' (by repeat (first | exact Has.hd | refine Has.tlb ?_ | refine Has.tlc ?_))) (by rfl)) (l' := #[true, true, true, true, false, false, false, false, false, false, false, false, false, false, false, false, false]) rfl ?_
    refine TR.take 4 rfl (by kernel_rfl) (by kernel_rfl) (by kernel_rfl) (EvP.r (by exact EvP.lenS Try.runUnderlying27 rfl)) (l' := #[true, true, true, true, true, false, false, false, false, false, false, false, false, false, false, false, false]) rfl ?_
    refine TR.take 5 rfl (by kernel_rfl) (by kernel_rfl) (by kernel_rfl) (EvP.r (by exact EvP.gt rfl rfl)) (l' := #[true, true, true, true, true, true, false, false, false, false, false, false, false, false, false, false, false]) rfl ?_
    refine TR.take 6 rfl (by kernel_rfl) (by kernel_rfl) (by kernel_rfl) (EvP.r (by exact EvP.move rfl)) (l' := #[true, true, true, true, true, true, true, false, false, false, false, false, false, false, false, false, false]) rfl ?_
    refine TR.bsplit 46 rfl (fun h46 => ?_) (fun h46 => ?_)
    · refine TR.takeY 7 rfl rfl rfl rfl (by kernel_rfl) (by kernel_rfl) (by kernel_rfl) (EvP.r (by exact EvP.move rfl)) (l' := #[true, true, true, true, true, true, true, true, false, false, false, false, false, false, false, false, false]) rfl ?_
      refine TR.takeY 9 rfl rfl rfl rfl (by kernel_rfl) (by kernel_rfl) (by kernel_rfl) (EvP.r (by exact EvP.move rfl)) (l' := #[true, true, true, true, true, true, true, true, false, true, false, false, false, false, false, false, false]) rfl ?_
      refine TR.takeY 10 rfl rfl rfl rfl (by kernel_rfl) (by kernel_rfl) (by kernel_rfl) (EvP.r (by exact EvP.nilP rfl)) (l' := #[true, true, true, true, true, true, true, true, false, true, true, false, false, false, false, false, false]) rfl ?_
      refine TR.takeY 11 rfl rfl rfl rfl (by kernel_rfl) (by kernel_rfl) (by kernel_rfl) (EvP.r (by exact EvP.fa (e := 0) rfl Try.runUnderlying29 rfl Try.sizeOf27 rfl)) (l' := #[true, true, true, true, true, true, true, true, false, true, true, true, false, false, false, false, false]) rfl ?_
      refine TR.takeY 12 rfl rfl rfl rfl (by kernel_rfl) (by kernel_rfl) (by kernel_rfl) (EvR.load rfl Try.isAgg27 (AtB.own' (by repeat (first | exact Has.hd | refine Has.tlb ?_ | refine Has.tlc ?_))) (by rfl)) (l' := #[true, true, true, true, true, true, true, true, false, true, true, true, true, false, false, false, false]) rfl ?_
      refine TR.takeY 13 rfl rfl rfl rfl (by kernel_rfl) (by kernel_rfl) (by kernel_rfl) (EvP.r (by exact EvP.sliceH (j := 1) Try.runUnderlying27 Try.sizeOf48 rfl rfl (by have := hv2.capOk; have := of_decide_eq_true h46; omega) hv2.spotOk)) (l' := #[true, true, true, true, true, true, true, true, false, true, true, true, true, true, false, false, false]) rfl ?_
      refine TR.one (i := 8) (by kernel_rfl) ?_
      refine TRi.callG rfl rfl rfl rfl rfl rfl Try.call15 (fun w hs => g_every hG (most := 1) (by omega) hs) (l' := #[true, true, true, true, true, true, true, true, true, true, true, true, true, true, false, false, false]) rfl ?_
      rintro _ _ ⟨E, rfl, hu⟩
      refine ⟨(fun w hs => SH.of hs (by repeat (first | exact Le.refl _ | exact Le.nil _ | refine Le.hit ?_ | refine Le.hit1 ?_ | refine Le.hit2 ?_ | refine Le.hit3 ?_ | refine Le.hit4 ?_ | refine Le.hit5 ?_ | refine Le.hit6 ?_ | refine Le.hit7 ?_ | refine Le.hit8 ?_ | refine Le.hit9 ?_ | refine Le.hit10 ?_ | refine Le.skip ?_))), ?_⟩
      refine TR.one (i := 14) (by kernel_rfl) ?_
      refine TRi.callG rfl rfl rfl rfl rfl rfl Try.call14 (fun w hs => bonds_spec (xs := L.take 1) (hu.els encB_ok (by simp)) ((hv2.els encB_ok (by simp)).take (j := 1) (by have := of_decide_eq_true h46; omega)) (by rw [List.length_take]; omega) hs) (l' := #[true, true, true, true, true, true, true, true, true, true, true, true, true, true, true, false, false]) rfl ?_
      rintro _ _ ⟨rfl, rfl⟩
      refine ⟨(fun w hs => SH.of hs (by repeat (first | exact Le.refl _ | exact Le.nil _ | refine Le.hit ?_ | refine Le.hit1 ?_ | refine Le.hit2 ?_ | refine Le.hit3 ?_ | refine Le.hit4 ?_ | refine Le.hit5 ?_ | refine Le.hit6 ?_ | refine Le.hit7 ?_ | refine Le.hit8 ?_ | refine Le.hit9 ?_ | refine Le.hit10 ?_ | refine Le.skip ?_))), ?_⟩
      refine TR.takeY 15 rfl rfl rfl rfl (by kernel_rfl) (by kernel_rfl) (by kernel_rfl) (EvP.r (by exact EvP.not rfl)) (l' := #[true, true, true, true, true, true, true, true, true, true, true, true, true, true, true, true, false]) rfl ?_
      refine TR.take 16 rfl (by kernel_rfl) (by kernel_rfl) (by kernel_rfl) (EvP.r (by exact EvP.pickT rfl rfl)) (l' := #[true, true, true, true, true, true, true, true, true, true, true, true, true, true, true, true, true]) rfl ?_
      refine TR.done (by kernel_rfl) ?_
      refine TX.thenN rfl rfl ?_
      refine TC.cfalse rfl ?_
      refine TC.skip ?_
      refine TX.thenN rfl rfl ?_
      refine TC.seq ?_
      refine TC.seq ?_
      refine TC.region ?_
      refine TL.p (EvP.move rfl) ?_
      refine TL.p (EvP.move rfl) ?_
      refine TL.le (Le.hit1 (Le.refl _)) ?_
      refine TL.callB rfl rfl Try.call25 (fun w hs => g_peers hG a hs) ?_
      rintro _ CP hp
      obtain ⟨ap, cp, rfl, _, _⟩ := hp.len
      have hlp : (pls L a).length ≤ 1024 := pls_len hll
      refine TL.p (EvP.lenS Try.runUnderlying50 rfl) ?_
      refine TL.p (EvP.move rfl) ?_
      refine TL.nil ?_
      refine TX.thenN rfl rfl ?_
      refine TC.block ?_
      refine TC.loop (ι := Nat) (fun j => [(59, .slice ap (pls L a).length cp), (60, .int .i64 (pls L a).length), (61, .int .i64 j), (7, .pointer (some ⟨g, 0, none⟩)), (8, .pointer (some ⟨b15, 0, none⟩)), (1, .int .i64 a), (2, .int .i64 b)]) (fun j => CP :: C :: [(b15, .cells [.slice a3 L.length c3].toArray 29 (0, 0))] :: D :: R) (fun j => j ≤ (pls L a).length) (fun j => (pls L a).length - j) (0) (Nat.zero_le _) ⟨rfl, rfl, rfl, rfl, rfl, rfl, rfl, trivial⟩ (by repeat (first | exact Le.refl _ | exact Le.nil _ | refine Le.hit ?_ | refine Le.hit1 ?_ | refine Le.hit2 ?_ | refine Le.hit3 ?_ | refine Le.hit4 ?_ | refine Le.hit5 ?_ | refine Le.hit6 ?_ | refine Le.hit7 ?_ | refine Le.hit8 ?_ | refine Le.hit9 ?_ | refine Le.hit10 ?_ | refine Le.skip ?_)) ?_
      rintro j hj
      change TC _ _ [(59, .slice ap (pls L a).length cp), (60, .int .i64 (pls L a).length), (61, .int .i64 j), (7, .pointer (some ⟨g, 0, none⟩)), (8, .pointer (some ⟨b15, 0, none⟩)), (1, .int .i64 a), (2, .int .i64 b)] (CP :: C :: [(b15, .cells [.slice a3 L.length c3].toArray 29 (0, 0))] :: D :: R) _
      refine TC.seq ?_
      refine TC.region ?_
      refine TL.dec (EvP.lt rfl rfl) (fun h62 => ?_) (fun h62 => ?_)
      · refine TL.nil ?_
        refine TX.thenN rfl rfl ?_
        refine TC.seq ?_
        refine TC.ctrue rfl ?_
        refine TC.skip ?_
        refine TX.thenN rfl rfl ?_
        refine TC.seq ?_
        refine TC.block ?_
        refine TC.seq ?_
        refine TC.region ?_
        have hjl : j < (pls L a).length := by omega
        obtain ⟨y, hy⟩ : ∃ y, (pls L a)[j]? = some y := ⟨_, List.getElem?_eq_getElem hjl⟩
        refine TL.elem (hp.el encI_ok (j := j) (x := y) hy (by simp)) Try.runUnderlying50 Try.sizeOf2 rfl rfl (fun bE2 oE2 lE2 _ _ hE2 hcE2 => ?_)
        refine TL.r (EvR.load rfl Try.isAgg2 hE2 hcE2.1) ?_
        refine TL.p (EvP.assign rfl) ?_
        refine TL.nil ?_
        refine TX.thenN rfl rfl ?_
        refine TC.seq ?_
        refine TC.region ?_
        refine TL.p (EvP.move rfl) ?_
        refine TL.p (EvP.move rfl) ?_
        refine TL.p (EvP.move rfl) ?_
        refine TL.le (Le.hit1 (Le.refl _)) ?_
        refine TL.callB rfl rfl Try.call26 (fun w hs => g_linked hG a y hs) ?_
        rintro _ C9 ⟨rfl, hC9⟩
        replace hC9 := hC9.symm
        subst hC9
        rw [lkd_peer hG.ok (List.mem_of_getElem? hy)]
        refine TL.p (EvP.not rfl) ?_
        refine TL.nil ?_
        refine TX.thenN rfl rfl ?_
        refine TC.cfalse rfl ?_
        refine TC.skip ?_
        refine TX.blkN ?_
        refine TX.thenN rfl rfl ?_
        refine TC.region ?_
        refine TL.p (EvP.add rfl rfl (by omega)) ?_
        refine TL.p (EvP.move rfl) ?_
        refine TL.nil ?_
        refine TX.back (j + 1) (by omega) (by omega) ⟨rfl, rfl, rfl, rfl, rfl, rfl, rfl, trivial⟩ (by repeat (first | exact Le.refl _ | exact Le.nil _ | refine Le.hit ?_ | refine Le.hit1 ?_ | refine Le.hit2 ?_ | refine Le.hit3 ?_ | refine Le.hit4 ?_ | refine Le.hit5 ?_ | refine Le.hit6 ?_ | refine Le.hit7 ?_ | refine Le.hit8 ?_ | refine Le.hit9 ?_ | refine Le.hit10 ?_ | refine Le.skip ?_))
      · refine TL.nil ?_
        refine TX.thenN rfl rfl ?_
        refine TC.seq ?_
        refine TC.cfalse rfl ?_
        refine TC.exit ?_
        refine TX.thenE ?_
        refine TX.thenE ?_
        refine TX.blkH ?_
        refine TX.thenN rfl rfl ?_
        refine TC.seq ?_
        refine TC.drawn (listed := #[false, false, false, false, false, false, false, false, false, false, false, false, false, false, false, false, false, false, false, false, false, false, false, false, false]) 25 (SH w0 [[(b15, .cells [.slice a3 L.length c3].toArray 29 (0, 0))]]) rfl rfl rfl rfl (fun w hs => SH.of hs (by repeat (first | exact Le.refl _ | exact Le.nil _ | refine Le.hit ?_ | refine Le.hit1 ?_ | refine Le.hit2 ?_ | refine Le.hit3 ?_ | refine Le.hit4 ?_ | refine Le.hit5 ?_ | refine Le.hit6 ?_ | refine Le.hit7 ?_ | refine Le.hit8 ?_ | refine Le.hit9 ?_ | refine Le.hit10 ?_ | refine Le.skip ?_))) ?_
        refine TR.take 0 rfl (by kernel_rfl) (by kernel_rfl) (by kernel_rfl) (EvP.r (by exact EvP.move rfl)) (l' := #[true, false, false, false, false, false, false, false, false, false, false, false, false, false, false, false, false, false, false, false, false, false, false, false, false]) rfl ?_
        refine TR.take 2 rfl (by kernel_rfl) (by kernel_rfl) (by kernel_rfl) (EvP.r (by exact EvP.move rfl)) (l' := #[true, false, true, false, false, false, false, false, false, false, false, false, false, false, false, false, false, false, false, false, false, false, false, false, false]) rfl ?_
        refine TR.take 3 rfl (by kernel_rfl) (by kernel_rfl) (by kernel_rfl) (EvP.r (by exact EvP.nilP rfl)) (l' := #[true, false, true, true, false, false, false, false, false, false, false, false, false, false, false, false, false, false, false, false, false, false, false, false, false]) rfl ?_
        refine TR.take 4 rfl (by kernel_rfl) (by kernel_rfl) (by kernel_rfl) (EvP.r (by exact EvP.fa (e := 0) rfl Try.runUnderlying29 rfl Try.sizeOf27 rfl)) (l' := #[true, false, true, true, true, false, false, false, false, false, false, false, false, false, false, false, false, false, false, false, false, false, false, false, false]) rfl ?_
        refine TR.take 5 rfl (by kernel_rfl) (by kernel_rfl) (by kernel_rfl) (EvR.load rfl Try.isAgg27 (AtB.own' (by repeat (first | exact Has.hd | refine Has.tlb ?_ | refine Has.tlc ?_))) (by rfl)) (l' := #[true, false, true, true, true, true, false, false, false, false, false, false, false, false, false, false, false, false, false, false, false, false, false, false, false]) rfl ?_
        refine TR.one (i := 1) (by kernel_rfl) ?_
        refine TRi.le (Le.hit1 (Le.refl _)) ?_
        refine TRi.call rfl rfl rfl Try.call15 (fun w hs => g_every hG (most := 2048) (by omega) hs) (l' := #[true, true, true, true, true, true, false, false, false, false, false, false, false, false, false, false, false, false, false, false, false, false, false, false, false]) rfl ?_
        rintro _ _ ⟨E2, rfl, hu2⟩
        rw [List.take_of_length_le (by show L.length ≤ 2048; omega)] at hu2
        refine ⟨(fun w hs => SH.of hs (by repeat (first | exact Le.refl _ | exact Le.nil _ | refine Le.hit ?_ | refine Le.hit1 ?_ | refine Le.hit2 ?_ | refine Le.hit3 ?_ | refine Le.hit4 ?_ | refine Le.hit5 ?_ | refine Le.hit6 ?_ | refine Le.hit7 ?_ | refine Le.hit8 ?_ | refine Le.hit9 ?_ | refine Le.hit10 ?_ | refine Le.skip ?_))), ?_⟩
        refine TR.one (i := 6) (by kernel_rfl) ?_
        refine TRi.call rfl rfl rfl Try.call14 (fun w hs => bonds_spec (hu2.els encB_ok (by simp)) (hv2.els encB_ok (by simp)) (by omega) hs) (l' := #[true, true, true, true, true, true, true, false, false, false, false, false, false, false, false, false, false, false, false, false, false, false, false, false, false]) rfl ?_
        rintro _ _ ⟨rfl, rfl⟩
        refine ⟨(fun w hs => SH.of hs (by repeat (first | exact Le.refl _ | exact Le.nil _ | refine Le.hit ?_ | refine Le.hit1 ?_ | refine Le.hit2 ?_ | refine Le.hit3 ?_ | refine Le.hit4 ?_ | refine Le.hit5 ?_ | refine Le.hit6 ?_ | refine Le.hit7 ?_ | refine Le.hit8 ?_ | refine Le.hit9 ?_ | refine Le.hit10 ?_ | refine Le.skip ?_))), ?_⟩
        refine TR.take 7 rfl (by kernel_rfl) (by kernel_rfl) (by kernel_rfl) (EvP.r (by exact EvP.move rfl)) (l' := #[true, true, true, true, true, true, true, true, false, false, false, false, false, false, false, false, false, false, false, false, false, false, false, false, false]) rfl ?_
        refine TR.takeY 8 rfl rfl rfl rfl (by kernel_rfl) (by kernel_rfl) (by kernel_rfl) (EvP.r (by exact EvP.move rfl)) (l' := #[true, true, true, true, true, true, true, true, true, false, false, false, false, false, false, false, false, false, false, false, false, false, false, false, false]) rfl ?_
        refine TR.takeY 9 rfl rfl rfl rfl (by kernel_rfl) (by kernel_rfl) (by kernel_rfl) (EvP.r (by exact EvP.move rfl)) (l' := #[true, true, true, true, true, true, true, true, true, true, false, false, false, false, false, false, false, false, false, false, false, false, false, false, false]) rfl ?_
        refine TR.takeY 10 rfl rfl rfl rfl (by kernel_rfl) (by kernel_rfl) (by kernel_rfl) (EvP.r (by exact EvP.move rfl)) (l' := #[true, true, true, true, true, true, true, true, true, true, true, false, false, false, false, false, false, false, false, false, false, false, false, false, false]) rfl ?_
        refine TR.takeY 11 rfl rfl rfl rfl (by kernel_rfl) (by kernel_rfl) (by kernel_rfl) (EvP.r (by exact EvP.move rfl)) (l' := #[true, true, true, true, true, true, true, true, true, true, true, true, false, false, false, false, false, false, false, false, false, false, false, false, false]) rfl ?_
        refine TR.one (i := 12) (by kernel_rfl) ?_
        refine TRi.le (Le.hit1 (Le.hit2 (Le.hit2 (Le.refl _)))) ?_
        refine TRi.callG rfl rfl rfl rfl rfl rfl Try.call27 (fun w hs => asked_spec hG ⟨_, rfl, hv2⟩ a b hs) (l' := #[true, true, true, true, true, true, true, true, true, true, true, true, true, false, false, false, false, false, false, false, false, false, false, false, false]) rfl ?_
        rintro _ _ ⟨rfl, rfl⟩
        refine ⟨(fun w hs => SH.of hs (by repeat (first | exact Le.refl _ | exact Le.nil _ | refine Le.hit ?_ | refine Le.hit1 ?_ | refine Le.hit2 ?_ | refine Le.hit3 ?_ | refine Le.hit4 ?_ | refine Le.hit5 ?_ | refine Le.hit6 ?_ | refine Le.hit7 ?_ | refine Le.hit8 ?_ | refine Le.hit9 ?_ | refine Le.hit10 ?_ | refine Le.skip ?_))), ?_⟩
        refine TR.take 13 rfl (by kernel_rfl) (by kernel_rfl) (by kernel_rfl) (EvP.r (by exact EvP.pickT rfl rfl)) (l' := #[true, true, true, true, true, true, true, true, true, true, true, true, true, true, false, false, false, false, false, false, false, false, false, false, false]) rfl ?_
        refine TR.take 14 rfl (by kernel_rfl) (by kernel_rfl) (by kernel_rfl) (EvP.r (by exact EvP.move rfl)) (l' := #[true, true, true, true, true, true, true, true, true, true, true, true, true, true, true, false, false, false, false, false, false, false, false, false, false]) rfl ?_
        refine TR.takeY 15 rfl rfl rfl rfl (by kernel_rfl) (by kernel_rfl) (by kernel_rfl) (EvP.r (by exact EvP.move rfl)) (l' := #[true, true, true, true, true, true, true, true, true, true, true, true, true, true, true, true, false, false, false, false, false, false, false, false, false]) rfl ?_
        refine TR.takeY 16 rfl rfl rfl rfl (by kernel_rfl) (by kernel_rfl) (by kernel_rfl) (EvP.r (by exact EvP.move rfl)) (l' := #[true, true, true, true, true, true, true, true, true, true, true, true, true, true, true, true, true, false, false, false, false, false, false, false, false]) rfl ?_
        refine TR.takeY 17 rfl rfl rfl rfl (by kernel_rfl) (by kernel_rfl) (by kernel_rfl) (EvP.r (by exact EvP.move rfl)) (l' := #[true, true, true, true, true, true, true, true, true, true, true, true, true, true, true, true, true, true, false, false, false, false, false, false, false]) rfl ?_
        refine TR.takeY 18 rfl rfl rfl rfl (by kernel_rfl) (by kernel_rfl) (by kernel_rfl) (EvP.r (by exact EvP.move rfl)) (l' := #[true, true, true, true, true, true, true, true, true, true, true, true, true, true, true, true, true, true, true, false, false, false, false, false, false]) rfl ?_
        refine TR.one (i := 19) (by kernel_rfl) ?_
        refine TRi.callG rfl rfl rfl rfl rfl rfl Try.call27 (fun w hs => asked_spec hG ⟨_, rfl, hv2⟩ b a hs) (l' := #[true, true, true, true, true, true, true, true, true, true, true, true, true, true, true, true, true, true, true, true, false, false, false, false, false]) rfl ?_
        rintro _ _ ⟨rfl, rfl⟩
        refine ⟨(fun w hs => SH.of hs (by repeat (first | exact Le.refl _ | exact Le.nil _ | refine Le.hit ?_ | refine Le.hit1 ?_ | refine Le.hit2 ?_ | refine Le.hit3 ?_ | refine Le.hit4 ?_ | refine Le.hit5 ?_ | refine Le.hit6 ?_ | refine Le.hit7 ?_ | refine Le.hit8 ?_ | refine Le.hit9 ?_ | refine Le.hit10 ?_ | refine Le.skip ?_))), ?_⟩
        refine TR.take 20 rfl (by kernel_rfl) (by kernel_rfl) (by kernel_rfl) (EvP.r (by exact EvP.pickT rfl rfl)) (l' := #[true, true, true, true, true, true, true, true, true, true, true, true, true, true, true, true, true, true, true, true, true, false, false, false, false]) rfl ?_
        refine TR.take 21 rfl (by kernel_rfl) (by kernel_rfl) (by kernel_rfl) (EvP.r (by exact EvP.move rfl)) (l' := #[true, true, true, true, true, true, true, true, true, true, true, true, true, true, true, true, true, true, true, true, true, true, false, false, false]) rfl ?_
        refine TR.one (i := 22) (by kernel_rfl) ?_
        refine TRi.callG rfl rfl rfl rfl rfl rfl Try.call16 (fun w hs => awake_spec hs) (l' := #[true, true, true, true, true, true, true, true, true, true, true, true, true, true, true, true, true, true, true, true, true, true, true, false, false]) rfl ?_
        rintro _ _ ⟨rfl, rfl⟩
        refine ⟨(fun w hs => SH.of hs (by repeat (first | exact Le.refl _ | exact Le.nil _ | refine Le.hit ?_ | refine Le.hit1 ?_ | refine Le.hit2 ?_ | refine Le.hit3 ?_ | refine Le.hit4 ?_ | refine Le.hit5 ?_ | refine Le.hit6 ?_ | refine Le.hit7 ?_ | refine Le.hit8 ?_ | refine Le.hit9 ?_ | refine Le.hit10 ?_ | refine Le.skip ?_))), ?_⟩
        refine TR.take 23 rfl (by kernel_rfl) (by kernel_rfl) (by kernel_rfl) (EvP.r (by exact EvP.pickT rfl rfl)) (l' := #[true, true, true, true, true, true, true, true, true, true, true, true, true, true, true, true, true, true, true, true, true, true, true, true, false]) rfl ?_
        refine TR.take 24 rfl (by kernel_rfl) (by kernel_rfl) (by kernel_rfl) (EvP.r (by exact EvP.assign rfl)) (l' := #[true, true, true, true, true, true, true, true, true, true, true, true, true, true, true, true, true, true, true, true, true, true, true, true, true]) rfl ?_
        refine TR.done (by kernel_rfl) ?_
        refine TX.thenN rfl rfl ?_
        refine TC.ret ?_
        refine TX.done rfl (Res.one rfl rfl) (fun w hs => Post0.mk hs ?_ (by repeat (first | exact Le.refl _ | exact Le.nil _ | refine Le.hit ?_ | refine Le.hit1 ?_ | refine Le.hit2 ?_ | refine Le.hit3 ?_ | refine Le.hit4 ?_ | refine Le.hit5 ?_ | refine Le.hit6 ?_ | refine Le.hit7 ?_ | refine Le.hit8 ?_ | refine Le.hit9 ?_ | refine Le.hit10 ?_ | refine Le.skip ?_)))
        rfl
    · refine TR.takeN 7 rfl rfl rfl rfl (by kernel_rfl) (by kernel_rfl) (by kernel_rfl) (l' := #[true, true, true, true, true, true, true, true, false, false, false, false, false, false, false, false, false]) rfl ?_
      refine TR.takeN 8 rfl rfl rfl rfl (by kernel_rfl) (by kernel_rfl) (by kernel_rfl) (l' := #[true, true, true, true, true, true, true, true, true, false, false, false, false, false, false, false, false]) rfl ?_
      refine TR.takeN 9 rfl rfl rfl rfl (by kernel_rfl) (by kernel_rfl) (by kernel_rfl) (l' := #[true, true, true, true, true, true, true, true, true, true, false, false, false, false, false, false, false]) rfl ?_
      refine TR.takeN 10 rfl rfl rfl rfl (by kernel_rfl) (by kernel_rfl) (by kernel_rfl) (l' := #[true, true, true, true, true, true, true, true, true, true, true, false, false, false, false, false, false]) rfl ?_
      refine TR.takeN 11 rfl rfl rfl rfl (by kernel_rfl) (by kernel_rfl) (by kernel_rfl) (l' := #[true, true, true, true, true, true, true, true, true, true, true, true, false, false, false, false, false]) rfl ?_
      refine TR.takeN 12 rfl rfl rfl rfl (by kernel_rfl) (by kernel_rfl) (by kernel_rfl) (l' := #[true, true, true, true, true, true, true, true, true, true, true, true, true, false, false, false, false]) rfl ?_
      refine TR.takeN 13 rfl rfl rfl rfl (by kernel_rfl) (by kernel_rfl) (by kernel_rfl) (l' := #[true, true, true, true, true, true, true, true, true, true, true, true, true, true, false, false, false]) rfl ?_
      refine TR.takeN 14 rfl rfl rfl rfl (by kernel_rfl) (by kernel_rfl) (by kernel_rfl) (l' := #[true, true, true, true, true, true, true, true, true, true, true, true, true, true, true, false, false]) rfl ?_
      refine TR.takeN 15 rfl rfl rfl rfl (by kernel_rfl) (by kernel_rfl) (by kernel_rfl) (l' := #[true, true, true, true, true, true, true, true, true, true, true, true, true, true, true, true, false]) rfl ?_
      refine TR.take 16 rfl (by kernel_rfl) (by kernel_rfl) (by kernel_rfl) (EvP.r (by exact EvP.pickF rfl rfl)) (l' := #[true, true, true, true, true, true, true, true, true, true, true, true, true, true, true, true, true]) rfl ?_
      refine TR.done (by kernel_rfl) ?_
      refine TX.thenN rfl rfl ?_
      refine TC.cfalse rfl ?_
      refine TC.skip ?_
      refine TX.thenN rfl rfl ?_
      refine TC.seq ?_
      refine TC.seq ?_
      refine TC.region ?_
      refine TL.p (EvP.move rfl) ?_
      refine TL.p (EvP.move rfl) ?_
      refine TL.callB rfl rfl Try.call25 (fun w hs => g_peers hG a hs) ?_
      rintro _ CP hp
      obtain ⟨ap, cp, rfl, _, _⟩ := hp.len
      have hlp : (pls L a).length ≤ 1024 := pls_len hll
      refine TL.p (EvP.lenS Try.runUnderlying50 rfl) ?_
      refine TL.p (EvP.move rfl) ?_
      refine TL.nil ?_
      refine TX.thenN rfl rfl ?_
      refine TC.block ?_
      refine TC.loop (ι := Nat) (fun j => [(59, .slice ap (pls L a).length cp), (60, .int .i64 (pls L a).length), (61, .int .i64 j), (7, .pointer (some ⟨g, 0, none⟩)), (8, .pointer (some ⟨b15, 0, none⟩)), (1, .int .i64 a), (2, .int .i64 b)]) (fun j => CP :: C :: [(b15, .cells [.slice a3 L.length c3].toArray 29 (0, 0))] :: D :: R) (fun j => j ≤ (pls L a).length) (fun j => (pls L a).length - j) (0) (Nat.zero_le _) ⟨rfl, rfl, rfl, rfl, rfl, rfl, rfl, trivial⟩ (by repeat (first | exact Le.refl _ | exact Le.nil _ | refine Le.hit ?_ | refine Le.hit1 ?_ | refine Le.hit2 ?_ | refine Le.hit3 ?_ | refine Le.hit4 ?_ | refine Le.hit5 ?_ | refine Le.hit6 ?_ | refine Le.hit7 ?_ | refine Le.hit8 ?_ | refine Le.hit9 ?_ | refine Le.hit10 ?_ | refine Le.skip ?_)) ?_
      rintro j hj
      change TC _ _ [(59, .slice ap (pls L a).length cp), (60, .int .i64 (pls L a).length), (61, .int .i64 j), (7, .pointer (some ⟨g, 0, none⟩)), (8, .pointer (some ⟨b15, 0, none⟩)), (1, .int .i64 a), (2, .int .i64 b)] (CP :: C :: [(b15, .cells [.slice a3 L.length c3].toArray 29 (0, 0))] :: D :: R) _
      refine TC.seq ?_
      refine TC.region ?_
      refine TL.dec (EvP.lt rfl rfl) (fun h62 => ?_) (fun h62 => ?_)
      · refine TL.nil ?_
        refine TX.thenN rfl rfl ?_
        refine TC.seq ?_
        refine TC.ctrue rfl ?_
        refine TC.skip ?_
        refine TX.thenN rfl rfl ?_
        refine TC.seq ?_
        refine TC.block ?_
        refine TC.seq ?_
        refine TC.region ?_
        have hjl : j < (pls L a).length := by omega
        obtain ⟨y, hy⟩ : ∃ y, (pls L a)[j]? = some y := ⟨_, List.getElem?_eq_getElem hjl⟩
        refine TL.elem (hp.el encI_ok (j := j) (x := y) hy (by simp)) Try.runUnderlying50 Try.sizeOf2 rfl rfl (fun bE2 oE2 lE2 _ _ hE2 hcE2 => ?_)
        refine TL.r (EvR.load rfl Try.isAgg2 hE2 hcE2.1) ?_
        refine TL.p (EvP.assign rfl) ?_
        refine TL.nil ?_
        refine TX.thenN rfl rfl ?_
        refine TC.seq ?_
        refine TC.region ?_
        refine TL.p (EvP.move rfl) ?_
        refine TL.p (EvP.move rfl) ?_
        refine TL.p (EvP.move rfl) ?_
        refine TL.le (Le.hit1 (Le.refl _)) ?_
        refine TL.callB rfl rfl Try.call26 (fun w hs => g_linked hG a y hs) ?_
        rintro _ C9 ⟨rfl, hC9⟩
        replace hC9 := hC9.symm
        subst hC9
        rw [lkd_peer hG.ok (List.mem_of_getElem? hy)]
        refine TL.p (EvP.not rfl) ?_
        refine TL.nil ?_
        refine TX.thenN rfl rfl ?_
        refine TC.cfalse rfl ?_
        refine TC.skip ?_
        refine TX.blkN ?_
        refine TX.thenN rfl rfl ?_
        refine TC.region ?_
        refine TL.p (EvP.add rfl rfl (by omega)) ?_
        refine TL.p (EvP.move rfl) ?_
        refine TL.nil ?_
        refine TX.back (j + 1) (by omega) (by omega) ⟨rfl, rfl, rfl, rfl, rfl, rfl, rfl, trivial⟩ (by repeat (first | exact Le.refl _ | exact Le.nil _ | refine Le.hit ?_ | refine Le.hit1 ?_ | refine Le.hit2 ?_ | refine Le.hit3 ?_ | refine Le.hit4 ?_ | refine Le.hit5 ?_ | refine Le.hit6 ?_ | refine Le.hit7 ?_ | refine Le.hit8 ?_ | refine Le.hit9 ?_ | refine Le.hit10 ?_ | refine Le.skip ?_))
      · refine TL.nil ?_
        refine TX.thenN rfl rfl ?_
        refine TC.seq ?_
        refine TC.cfalse rfl ?_
        refine TC.exit ?_
        refine TX.thenE ?_
        refine TX.thenE ?_
        refine TX.blkH ?_
        refine TX.thenN rfl rfl ?_
        refine TC.seq ?_
        refine TC.drawn (listed := #[false, false, false, false, false, false, false, false, false, false, false, false, false, false, false, false, false, false, false, false, false, false, false, false, false]) 25 (SH w0 [[(b15, .cells [.slice a3 L.length c3].toArray 29 (0, 0))]]) rfl rfl rfl rfl (fun w hs => SH.of hs (by repeat (first | exact Le.refl _ | exact Le.nil _ | refine Le.hit ?_ | refine Le.hit1 ?_ | refine Le.hit2 ?_ | refine Le.hit3 ?_ | refine Le.hit4 ?_ | refine Le.hit5 ?_ | refine Le.hit6 ?_ | refine Le.hit7 ?_ | refine Le.hit8 ?_ | refine Le.hit9 ?_ | refine Le.hit10 ?_ | refine Le.skip ?_))) ?_
        refine TR.take 0 rfl (by kernel_rfl) (by kernel_rfl) (by kernel_rfl) (EvP.r (by exact EvP.move rfl)) (l' := #[true, false, false, false, false, false, false, false, false, false, false, false, false, false, false, false, false, false, false, false, false, false, false, false, false]) rfl ?_
        refine TR.take 2 rfl (by kernel_rfl) (by kernel_rfl) (by kernel_rfl) (EvP.r (by exact EvP.move rfl)) (l' := #[true, false, true, false, false, false, false, false, false, false, false, false, false, false, false, false, false, false, false, false, false, false, false, false, false]) rfl ?_
        refine TR.take 3 rfl (by kernel_rfl) (by kernel_rfl) (by kernel_rfl) (EvP.r (by exact EvP.nilP rfl)) (l' := #[true, false, true, true, false, false, false, false, false, false, false, false, false, false, false, false, false, false, false, false, false, false, false, false, false]) rfl ?_
        refine TR.take 4 rfl (by kernel_rfl) (by kernel_rfl) (by kernel_rfl) (EvP.r (by exact EvP.fa (e := 0) rfl Try.runUnderlying29 rfl Try.sizeOf27 rfl)) (l' := #[true, false, true, true, true, false, false, false, false, false, false, false, false, false, false, false, false, false, false, false, false, false, false, false, false]) rfl ?_
        refine TR.take 5 rfl (by kernel_rfl) (by kernel_rfl) (by kernel_rfl) (EvR.load rfl Try.isAgg27 (AtB.own' (by repeat (first | exact Has.hd | refine Has.tlb ?_ | refine Has.tlc ?_))) (by rfl)) (l' := #[true, false, true, true, true, true, false, false, false, false, false, false, false, false, false, false, false, false, false, false, false, false, false, false, false]) rfl ?_
        refine TR.one (i := 1) (by kernel_rfl) ?_
        refine TRi.le (Le.hit1 (Le.refl _)) ?_
        refine TRi.call rfl rfl rfl Try.call15 (fun w hs => g_every hG (most := 2048) (by omega) hs) (l' := #[true, true, true, true, true, true, false, false, false, false, false, false, false, false, false, false, false, false, false, false, false, false, false, false, false]) rfl ?_
        rintro _ _ ⟨E2, rfl, hu2⟩
        rw [List.take_of_length_le (by show L.length ≤ 2048; omega)] at hu2
        refine ⟨(fun w hs => SH.of hs (by repeat (first | exact Le.refl _ | exact Le.nil _ | refine Le.hit ?_ | refine Le.hit1 ?_ | refine Le.hit2 ?_ | refine Le.hit3 ?_ | refine Le.hit4 ?_ | refine Le.hit5 ?_ | refine Le.hit6 ?_ | refine Le.hit7 ?_ | refine Le.hit8 ?_ | refine Le.hit9 ?_ | refine Le.hit10 ?_ | refine Le.skip ?_))), ?_⟩
        refine TR.one (i := 6) (by kernel_rfl) ?_
        refine TRi.call rfl rfl rfl Try.call14 (fun w hs => bonds_spec (hu2.els encB_ok (by simp)) (hv2.els encB_ok (by simp)) (by omega) hs) (l' := #[true, true, true, true, true, true, true, false, false, false, false, false, false, false, false, false, false, false, false, false, false, false, false, false, false]) rfl ?_
        rintro _ _ ⟨rfl, rfl⟩
        refine ⟨(fun w hs => SH.of hs (by repeat (first | exact Le.refl _ | exact Le.nil _ | refine Le.hit ?_ | refine Le.hit1 ?_ | refine Le.hit2 ?_ | refine Le.hit3 ?_ | refine Le.hit4 ?_ | refine Le.hit5 ?_ | refine Le.hit6 ?_ | refine Le.hit7 ?_ | refine Le.hit8 ?_ | refine Le.hit9 ?_ | refine Le.hit10 ?_ | refine Le.skip ?_))), ?_⟩
        refine TR.take 7 rfl (by kernel_rfl) (by kernel_rfl) (by kernel_rfl) (EvP.r (by exact EvP.move rfl)) (l' := #[true, true, true, true, true, true, true, true, false, false, false, false, false, false, false, false, false, false, false, false, false, false, false, false, false]) rfl ?_
        refine TR.takeY 8 rfl rfl rfl rfl (by kernel_rfl) (by kernel_rfl) (by kernel_rfl) (EvP.r (by exact EvP.move rfl)) (l' := #[true, true, true, true, true, true, true, true, true, false, false, false, false, false, false, false, false, false, false, false, false, false, false, false, false]) rfl ?_
        refine TR.takeY 9 rfl rfl rfl rfl (by kernel_rfl) (by kernel_rfl) (by kernel_rfl) (EvP.r (by exact EvP.move rfl)) (l' := #[true, true, true, true, true, true, true, true, true, true, false, false, false, false, false, false, false, false, false, false, false, false, false, false, false]) rfl ?_
        refine TR.takeY 10 rfl rfl rfl rfl (by kernel_rfl) (by kernel_rfl) (by kernel_rfl) (EvP.r (by exact EvP.move rfl)) (l' := #[true, true, true, true, true, true, true, true, true, true, true, false, false, false, false, false, false, false, false, false, false, false, false, false, false]) rfl ?_
        refine TR.takeY 11 rfl rfl rfl rfl (by kernel_rfl) (by kernel_rfl) (by kernel_rfl) (EvP.r (by exact EvP.move rfl)) (l' := #[true, true, true, true, true, true, true, true, true, true, true, true, false, false, false, false, false, false, false, false, false, false, false, false, false]) rfl ?_
        refine TR.one (i := 12) (by kernel_rfl) ?_
        refine TRi.le (Le.hit1 (Le.hit2 (Le.hit2 (Le.refl _)))) ?_
        refine TRi.callG rfl rfl rfl rfl rfl rfl Try.call27 (fun w hs => asked_spec hG ⟨_, rfl, hv2⟩ a b hs) (l' := #[true, true, true, true, true, true, true, true, true, true, true, true, true, false, false, false, false, false, false, false, false, false, false, false, false]) rfl ?_
        rintro _ _ ⟨rfl, rfl⟩
        refine ⟨(fun w hs => SH.of hs (by repeat (first | exact Le.refl _ | exact Le.nil _ | refine Le.hit ?_ | refine Le.hit1 ?_ | refine Le.hit2 ?_ | refine Le.hit3 ?_ | refine Le.hit4 ?_ | refine Le.hit5 ?_ | refine Le.hit6 ?_ | refine Le.hit7 ?_ | refine Le.hit8 ?_ | refine Le.hit9 ?_ | refine Le.hit10 ?_ | refine Le.skip ?_))), ?_⟩
        refine TR.take 13 rfl (by kernel_rfl) (by kernel_rfl) (by kernel_rfl) (EvP.r (by exact EvP.pickT rfl rfl)) (l' := #[true, true, true, true, true, true, true, true, true, true, true, true, true, true, false, false, false, false, false, false, false, false, false, false, false]) rfl ?_
        refine TR.take 14 rfl (by kernel_rfl) (by kernel_rfl) (by kernel_rfl) (EvP.r (by exact EvP.move rfl)) (l' := #[true, true, true, true, true, true, true, true, true, true, true, true, true, true, true, false, false, false, false, false, false, false, false, false, false]) rfl ?_
        refine TR.takeY 15 rfl rfl rfl rfl (by kernel_rfl) (by kernel_rfl) (by kernel_rfl) (EvP.r (by exact EvP.move rfl)) (l' := #[true, true, true, true, true, true, true, true, true, true, true, true, true, true, true, true, false, false, false, false, false, false, false, false, false]) rfl ?_
        refine TR.takeY 16 rfl rfl rfl rfl (by kernel_rfl) (by kernel_rfl) (by kernel_rfl) (EvP.r (by exact EvP.move rfl)) (l' := #[true, true, true, true, true, true, true, true, true, true, true, true, true, true, true, true, true, false, false, false, false, false, false, false, false]) rfl ?_
        refine TR.takeY 17 rfl rfl rfl rfl (by kernel_rfl) (by kernel_rfl) (by kernel_rfl) (EvP.r (by exact EvP.move rfl)) (l' := #[true, true, true, true, true, true, true, true, true, true, true, true, true, true, true, true, true, true, false, false, false, false, false, false, false]) rfl ?_
        refine TR.takeY 18 rfl rfl rfl rfl (by kernel_rfl) (by kernel_rfl) (by kernel_rfl) (EvP.r (by exact EvP.move rfl)) (l' := #[true, true, true, true, true, true, true, true, true, true, true, true, true, true, true, true, true, true, true, false, false, false, false, false, false]) rfl ?_
        refine TR.one (i := 19) (by kernel_rfl) ?_
        refine TRi.callG rfl rfl rfl rfl rfl rfl Try.call27 (fun w hs => asked_spec hG ⟨_, rfl, hv2⟩ b a hs) (l' := #[true, true, true, true, true, true, true, true, true, true, true, true, true, true, true, true, true, true, true, true, false, false, false, false, false]) rfl ?_
        rintro _ _ ⟨rfl, rfl⟩
        refine ⟨(fun w hs => SH.of hs (by repeat (first | exact Le.refl _ | exact Le.nil _ | refine Le.hit ?_ | refine Le.hit1 ?_ | refine Le.hit2 ?_ | refine Le.hit3 ?_ | refine Le.hit4 ?_ | refine Le.hit5 ?_ | refine Le.hit6 ?_ | refine Le.hit7 ?_ | refine Le.hit8 ?_ | refine Le.hit9 ?_ | refine Le.hit10 ?_ | refine Le.skip ?_))), ?_⟩
        refine TR.take 20 rfl (by kernel_rfl) (by kernel_rfl) (by kernel_rfl) (EvP.r (by exact EvP.pickT rfl rfl)) (l' := #[true, true, true, true, true, true, true, true, true, true, true, true, true, true, true, true, true, true, true, true, true, false, false, false, false]) rfl ?_
        refine TR.take 21 rfl (by kernel_rfl) (by kernel_rfl) (by kernel_rfl) (EvP.r (by exact EvP.move rfl)) (l' := #[true, true, true, true, true, true, true, true, true, true, true, true, true, true, true, true, true, true, true, true, true, true, false, false, false]) rfl ?_
        refine TR.one (i := 22) (by kernel_rfl) ?_
        refine TRi.callG rfl rfl rfl rfl rfl rfl Try.call16 (fun w hs => awake_spec hs) (l' := #[true, true, true, true, true, true, true, true, true, true, true, true, true, true, true, true, true, true, true, true, true, true, true, false, false]) rfl ?_
        rintro _ _ ⟨rfl, rfl⟩
        refine ⟨(fun w hs => SH.of hs (by repeat (first | exact Le.refl _ | exact Le.nil _ | refine Le.hit ?_ | refine Le.hit1 ?_ | refine Le.hit2 ?_ | refine Le.hit3 ?_ | refine Le.hit4 ?_ | refine Le.hit5 ?_ | refine Le.hit6 ?_ | refine Le.hit7 ?_ | refine Le.hit8 ?_ | refine Le.hit9 ?_ | refine Le.hit10 ?_ | refine Le.skip ?_))), ?_⟩
        refine TR.take 23 rfl (by kernel_rfl) (by kernel_rfl) (by kernel_rfl) (EvP.r (by exact EvP.pickT rfl rfl)) (l' := #[true, true, true, true, true, true, true, true, true, true, true, true, true, true, true, true, true, true, true, true, true, true, true, true, false]) rfl ?_
        refine TR.take 24 rfl (by kernel_rfl) (by kernel_rfl) (by kernel_rfl) (EvP.r (by exact EvP.assign rfl)) (l' := #[true, true, true, true, true, true, true, true, true, true, true, true, true, true, true, true, true, true, true, true, true, true, true, true, true]) rfl ?_
        refine TR.done (by kernel_rfl) ?_
        refine TX.thenN rfl rfl ?_
        refine TC.ret ?_
        refine TX.done rfl (Res.one rfl rfl) (fun w hs => Post0.mk hs ?_ (by repeat (first | exact Le.refl _ | exact Le.nil _ | refine Le.hit ?_ | refine Le.hit1 ?_ | refine Le.hit2 ?_ | refine Le.hit3 ?_ | refine Le.hit4 ?_ | refine Le.hit5 ?_ | refine Le.hit6 ?_ | refine Le.hit7 ?_ | refine Le.hit8 ?_ | refine Le.hit9 ?_ | refine Le.hit10 ?_ | refine Le.skip ?_)))
        rfl
end Go.Proofs.Ytnmljhhbabjlcaa
