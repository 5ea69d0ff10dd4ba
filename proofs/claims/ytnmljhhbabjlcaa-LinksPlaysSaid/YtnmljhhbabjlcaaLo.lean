/-
  The walk of LinksEnd: whatever the script and the pid, it answers true.
-/
import Derived.Test.YtnmljhhbabjlcaaLm
set_option linter.unusedSimpArgs false
set_option linter.unusedVariables false
set_option maxRecDepth 4000
namespace Go.Proofs.Ytnmljhhbabjlcaa
open Go Go.RowKit

theorem of_nil (L : List Bond) (p : Int) : ofL (endL L p) p = [] := by
  unfold ofL endL
  rw [List.filter_filter, List.filter_eq_nil_iff]
  intro b _
  cases ofP p b <;> simp
theorem endT_endL {L : List Bond} {p : Int} : endT (endL L p) p = [] := by
  unfold endT
  rw [of_nil]; rfl
theorem endL_endL {L : List Bond} {p : Int} : endL (endL L p) p = endL L p := by
  unfold endL
  rw [List.filter_filter]
  congr 1
  funext b
  simp
theorem of_endL {L : List Bond} {p : Int} {n : Nat} : (ofL (endL L p) p).take n = [] := by rw [of_nil, List.take_nil]
theorem len_split (L : List Bond) (p : Int) : (ofL L p).length + (endL L p).length = L.length := by
  unfold ofL endL
  induction L with
  | nil => rfl
  | cons b L ih =>
    simp only [List.filter_cons, List.length_cons]
    cases ofP p b <;> simp <;> omega
theorem mem_endT {L : List Bond} {p : Int} {x : Bond} (h : x ∈ endT L p) : (x.f = p ∨ x.t = p) ∧ (x.r = 0 ∨ (x.t = p ∧ x.f ≠ p)) := by
  unfold endT ofL at h
  rw [List.mem_filter, List.mem_filter] at h
  have h1 := h.1.2
  have h2 := h.2
  simp only [ofP, told, Bool.or_eq_true, Bool.and_eq_true, decide_eq_true_eq] at h1 h2
  exact ⟨h1, h2⟩

theorem laid_spec {w0 w : World} {R : List Chunk} {v : Value} {ops : List LOp} (he : Els (fun w => w = w0) v 4 LOp.enc 23 ops) (hsz : ops.length < 4611686018427387904) (hst : St w0 w R) : Calls Try.prog 17 #[v] w (Post3 w0 R fun u C Cr D => ∃ g rr L, u = .tuple #[.pointer (some ⟨g, 0, none⟩), .pointer (some ⟨rr, 0, none⟩)] ∧ IsG ops.length L g C ∧ RQ rr L Cr D) := by
  obtain ⟨⟨a, cap, rfl⟩, _⟩ := id he
  refine calls_of (args := [_]) Try.func17 rfl Try.ntmps17 hst ?_
  refine TC.seq ?_
  refine TC.region ?_
  refine TL.p (EvP.assign rfl) ?_
  refine TL.p (EvP.assign rfl) ?_
  refine TL.nil ?_
  refine TX.thenN rfl rfl ?_
  refine TC.seq ?_
  refine TC.region ?_
  refine TL.callB rfl rfl Try.call9 (fun w hs => new_spec hs) ?_
  rintro _ C ⟨g, rfl, hG⟩
  refine TL.p (EvP.buildS (is := []) (xs := []) rfl Try.runUnderlying29 Try.zeroValue29 rfl (.cons Try.sizeOf27 .nil) rfl rfl rfl) ?_
  refine TL.box rfl rfl (fun b10 => ?_)
  refine TL.le (Le.hit Le.nilC) ?_
  refine TL.p (EvP.assign rfl) ?_
  refine TL.p (EvP.assign rfl) ?_
  refine TL.nil ?_
  refine TX.thenN rfl rfl ?_
  refine TC.seq ?_
  refine TC.seq ?_
  refine TC.region ?_
  refine TL.p (EvP.move rfl) ?_
  refine TL.p (EvP.eqPtrNil Try.runUnderlying24 rfl rfl) ?_
  refine TL.nil ?_
  refine TX.thenN rfl rfl ?_
  refine TC.cfalse rfl ?_
  refine TC.skip ?_
  refine TX.thenN rfl rfl ?_
  refine TC.seq ?_
  refine TC.seq ?_
  refine TC.region ?_
  refine TL.p (EvP.move rfl) ?_
  refine TL.p (EvP.lenS Try.runUnderlying38 rfl) ?_
  refine TL.p (EvP.move rfl) ?_
  refine TL.nil ?_
  refine TX.thenN rfl rfl ?_
  refine TC.block ?_
  refine TC.loop (ι := Nat × List Bond × Chunk × Chunk × Chunk) (fun (i, L, C, Cr, D) => [(4, .pointer (some ⟨g, 0, none⟩)), (5, .pointer (some ⟨b10, 0, none⟩)), (14, .slice a ops.length cap), (15, .int .i64 ops.length), (16, .int .i64 i)]) (fun (i, L, C, Cr, D) => C :: Cr :: D :: R) (fun (i, L, C, Cr, D) => i ≤ ops.length ∧ IsG i L g C ∧ RQ b10 L Cr D) (fun (i, L, C, Cr, D) => ops.length - i) ((0, [], C, [(b10, .cells [.slice none 0 0].toArray 29 (0, 0))], [])) (⟨by omega, hG, _, rfl, Sl.nil⟩) ⟨rfl, rfl, rfl, rfl, rfl, trivial⟩ (by repeat (first | exact Le.refl _ | exact Le.nil _ | refine Le.hit ?_ | refine Le.hit1 ?_ | refine Le.hit2 ?_ | refine Le.hit3 ?_ | refine Le.hit4 ?_ | refine Le.hit5 ?_ | refine Le.hit6 ?_ | refine Le.hit7 ?_ | refine Le.hit8 ?_ | refine Le.hit9 ?_ | refine Le.hit10 ?_ | refine Le.skip ?_)) ?_
  rintro ⟨i, L, C, Cr, D⟩ ⟨hi, hG, hR⟩
  change TC _ _ [(4, .pointer (some ⟨g, 0, none⟩)), (5, .pointer (some ⟨b10, 0, none⟩)), (14, .slice a ops.length cap), (15, .int .i64 ops.length), (16, .int .i64 i)] (C :: Cr :: D :: R) _
  refine TC.seq ?_
  refine TC.region ?_
  refine TL.dec (EvP.lt rfl rfl) (fun h17 => ?_) (fun h17 => ?_)
  · refine TL.nil ?_
    refine TX.thenN rfl rfl ?_
    refine TC.seq ?_
    refine TC.ctrue rfl ?_
    refine TC.skip ?_
    refine TX.thenN rfl rfl ?_
    refine TC.seq ?_
    refine TC.block ?_
    refine TC.seq ?_
    refine TC.region ?_
    have hlt : i < ops.length := by omega
    obtain ⟨o, hx⟩ : ∃ o, ops[i]? = some o := ⟨_, List.getElem?_eq_getElem hlt⟩
    refine TL.elem (he.came.2 i o hx) Try.runUnderlying38 Try.sizeOf23 rfl rfl (fun bE oE lE _ _ hE hcE => ?_)
    refine TL.r (EvR.loadN (vs := [_, _, _, _]) rfl Try.isAgg23 Try.sizeOf23 hE hcE) ?_
    refine TL.alloc Try.zeroValue23 rfl (fun b7 => ?_)
    refine TL.u (EvU.store rfl rfl Try.sizeOf23 rfl rfl rfl rfl (by repeat (first | exact Has.hd | refine Has.tlb ?_ | refine Has.tlc ?_)) (by repeat (first | exact SetLs.nil | exact SetL.here | apply SetLs.cons | apply SetL.there)) (by repeat (first | exact Upd.hd | apply Upd.tlb | apply Upd.tlc))) ?_
    refine TL.nil ?_
    refine TX.thenN rfl rfl ?_
    refine TC.region ?_
    refine TL.p (EvP.move rfl) ?_
    refine TL.p (EvP.move rfl) ?_
    refine TL.r (EvR.loadN (vs := [_, _, _, _]) rfl Try.isAgg23 Try.sizeOf23 (AtB.own (by repeat (first | exact Has.hd | refine Has.tlb ?_ | refine Has.tlc ?_))) (by exact ⟨rfl, rfl, rfl, rfl,  trivial⟩)) ?_
    refine TL.le (Le.hit1 (Le.hit1 (Le.hit1 (Le.refl _)))) ?_
    refine TL.callD rfl rfl Try.call13 (fun w hs => step_spec hG (by omega) hR o hs) ?_
    rintro _ C2 Cr2 D2 ⟨rfl, hG2, hR2⟩
    refine TL.nil ?_
    refine TX.blkN ?_
    refine TX.thenN rfl rfl ?_
    refine TC.region ?_
    refine TL.p (EvP.add rfl rfl (by omega)) ?_
    refine TL.p (EvP.move rfl) ?_
    refine TL.nil ?_
    refine TX.back ((i + 1, _, C2, Cr2, D2)) (⟨by omega, hG2, hR2⟩) (by simp only; omega) ⟨rfl, rfl, rfl, rfl, rfl, trivial⟩ (by repeat (first | exact Le.refl _ | exact Le.nil _ | refine Le.hit ?_ | refine Le.hit1 ?_ | refine Le.hit2 ?_ | refine Le.hit3 ?_ | refine Le.hit4 ?_ | refine Le.hit5 ?_ | refine Le.hit6 ?_ | refine Le.hit7 ?_ | refine Le.hit8 ?_ | refine Le.hit9 ?_ | refine Le.hit10 ?_ | refine Le.skip ?_))
  · refine TL.nil ?_
    refine TX.thenN rfl rfl ?_
    refine TC.seq ?_
    refine TC.cfalse rfl ?_
    refine TC.exit ?_
    refine TX.thenE ?_
    refine TX.thenE ?_
    refine TX.blkH ?_
    refine TX.thenN rfl rfl ?_
    refine TC.seq ?_
    refine TC.region ?_
    refine TL.p (EvP.move rfl) ?_
    refine TL.p (EvP.move rfl) ?_
    refine TL.p (EvP.assign rfl) ?_
    refine TL.p (EvP.assign rfl) ?_
    refine TL.nil ?_
    refine TX.thenN rfl rfl ?_
    refine TC.ret ?_
    refine TX.done rfl (Res.two rfl rfl rfl) (fun w hs => Post3.mk (C := C) (D := Cr) (E := D) hs ⟨g, b10, L, rfl, hG.up (by omega), hR⟩ (by repeat (first | exact Le.refl _ | exact Le.nil _ | refine Le.hit ?_ | refine Le.hit1 ?_ | refine Le.hit2 ?_ | refine Le.hit3 ?_ | refine Le.hit4 ?_ | refine Le.hit5 ?_ | refine Le.hit6 ?_ | refine Le.hit7 ?_ | refine Le.hit8 ?_ | refine Le.hit9 ?_ | refine Le.hit10 ?_ | refine Le.skip ?_)))

theorem end_walk {w0 w : World} {R : List Chunk} {v : Value} {ops : List LOp} (he : Els (fun w => w = w0) v 4 LOp.enc 23 ops) (hsz : ops.length < 4611686018427387904) (pid : Int) (hst : St w0 w R) : Calls Try.prog 4 #[v, .int .i64 pid] w (Post0 w0 R fun u => u = .bool true) := by
  refine calls_of (args := [_, _]) Try.func4 rfl Try.ntmps4 hst ?_
  refine TC.seq ?_
  refine TC.region ?_
  refine TL.p (EvP.assign rfl) ?_
  refine TL.nil ?_
  refine TX.thenN rfl rfl ?_
  refine TC.seq ?_
  refine TC.region ?_
  refine TL.p (EvP.move rfl) ?_
  refine TL.callD rfl rfl Try.call17 (fun w hs => laid_spec he hsz hs) ?_
  rintro _ C Cr D ⟨g, rr, L, rfl, hG, hR⟩
  refine TL.p (EvP.move rfl) ?_
  refine TL.p (EvP.extract rfl rfl) ?_
  refine TL.p (EvP.extract rfl rfl) ?_
  refine TL.p (EvP.assign rfl) ?_
  refine TL.p (EvP.assign rfl) ?_
  refine TL.nil ?_
  refine TX.thenN rfl rfl ?_
  refine TC.seq ?_
  refine TC.seq ?_
  refine TC.region ?_
  refine TL.p (EvP.move rfl) ?_
  refine TL.p (EvP.eqPtrNil Try.runUnderlying24 rfl rfl) ?_
  refine TL.nil ?_
  refine TX.thenN rfl rfl ?_
  refine TC.cfalse rfl ?_
  refine TC.skip ?_
  refine TX.thenN rfl rfl ?_
  refine TC.seq ?_
  refine TC.region ?_
  refine TL.p (EvP.move rfl) ?_
  refine TL.p (EvP.move rfl) ?_
  refine TL.le (Le.hit1 (Le.hit1 (Le.refl _))) ?_
  refine TL.callB rfl rfl Try.call18 (fun w hs => r_of hR hG.ok.len pid hs) ?_
  rintro _ CW hw
  obtain ⟨a7, c7, rfl, _, _⟩ := hw.len
  obtain ⟨a3, c3, rfl, hv2⟩ := hR.open_
  have hlL := hG.ok.len
  have hq1 := len_split L pid
  have hq2 := endT_len (L := L) (p := pid)
  refine TL.p (EvP.assign rfl) ?_
  refine TL.nil ?_
  refine TX.thenN rfl rfl ?_
  refine TC.seq ?_
  refine TC.region ?_
  refine TL.p (EvP.move rfl) ?_
  refine TL.p (EvP.move rfl) ?_
  by_cases hp : okPid pid = true
  · refine TL.le (Le.hit3 (Le.refl _)) ?_
    refine TL.callC rfl rfl Try.call19 (fun w hs => g_end hG pid hp hs) ?_
    rintro _ C2 CT ⟨t, rfl, ht, hG2⟩
    obtain ⟨a4, c4, rfl, _, _⟩ := ht.len
    refine TL.p (EvP.move rfl) ?_
    refine TL.p (EvP.extract rfl rfl) ?_
    refine TL.p (EvP.extract rfl rfl) ?_
    refine TL.p (EvP.assign rfl) ?_
    refine TL.p (EvP.assign rfl) ?_
    refine TL.nil ?_
    refine TX.thenN rfl rfl ?_
    refine TC.seq ?_
    refine TC.region ?_
    refine TL.p (EvP.move rfl) ?_
    refine TL.p (EvP.move rfl) ?_
    refine TL.callC rfl rfl Try.call19 (fun w hs => (by have h := g_end hG2 pid hp hs; rw [endT_endL, endL_endL] at h; exact h)) ?_
    rintro _ C3 CM ⟨m, rfl, hm, hG3⟩
    obtain ⟨a5, c5, rfl, _, _⟩ := hm.len
    refine TL.p (EvP.move rfl) ?_
    refine TL.p (EvP.extract rfl rfl) ?_
    refine TL.p (EvP.extract rfl rfl) ?_
    refine TL.p (EvP.assign rfl) ?_
    refine TL.p (EvP.assign rfl) ?_
    refine TL.nil ?_
    refine TX.thenN rfl rfl ?_
    refine TC.seq ?_
    refine TC.seq ?_
    refine TC.region ?_
    refine TL.p (EvP.move rfl) ?_
    refine TL.p (EvP.move rfl) ?_
    refine TL.p (EvP.ne rfl rfl) ?_
    refine TL.p (EvP.move rfl) ?_
    refine TL.gY rfl rfl rfl ?_
    refine TL.p (EvP.move rfl) ?_
    refine TL.gY rfl rfl rfl ?_
    refine TL.p (EvP.ne rfl rfl) ?_
    refine TL.gY rfl rfl rfl ?_
    refine TL.p (EvP.move rfl) ?_
    refine TL.gN rfl rfl rfl ?_
    refine TL.gN rfl rfl rfl ?_
    refine TL.gN rfl rfl rfl ?_
    refine TL.gU rfl rfl ?_
    refine TL.gU rfl rfl ?_
    refine TL.gU rfl rfl ?_
    refine TL.gN rfl rfl rfl ?_
    refine TL.gY rfl rfl rfl ?_
    refine TL.p (EvP.pickF rfl rfl) ?_
    refine TL.p (EvP.pickF rfl rfl) ?_
    refine TL.nil ?_
    refine TX.thenN rfl rfl ?_
    refine TC.cfalse rfl ?_
    refine TC.skip ?_
    refine TX.thenN rfl rfl ?_
    refine TC.seq ?_
    refine TC.seq ?_
    refine TC.drawn (listed := #[false, false, false, false, false, false, false, false, false, false, false, false, false, false, false, false, false, false, false, false, false, false, false, false, false, false, false, false, false, false, false]) 31 (SH w0 [[(rr, .cells [.slice a3 L.length c3].toArray 29 (0, 0))]]) rfl rfl rfl rfl (fun w hs => SH.of hs (by repeat (first | exact Le.refl _ | exact Le.nil _ | refine Le.hit ?_ | refine Le.hit1 ?_ | refine Le.hit2 ?_ | refine Le.hit3 ?_ | refine Le.hit4 ?_ | refine Le.hit5 ?_ | refine Le.hit6 ?_ | refine Le.hit7 ?_ | refine Le.hit8 ?_ | refine Le.hit9 ?_ | refine Le.hit10 ?_ | refine Le.skip ?_))) ?_
    refine TR.take 0 rfl (by kernel_rfl) (by kernel_rfl) (by kernel_rfl) (EvP.r (by exact EvP.move rfl)) (l' := #[true, false, false, false, false, false, false, false, false, false, false, false, false, false, false, false, false, false, false, false, false, false, false, false, false, false, false, false, false, false, false]) rfl ?_
    refine TR.take 1 rfl (by kernel_rfl) (by kernel_rfl) (by kernel_rfl) (EvP.r (by exact EvP.lenS Try.runUnderlying27 rfl)) (l' := #[true, true, false, false, false, false, false, false, false, false, false, false, false, false, false, false, false, false, false, false, false, false, false, false, false, false, false, false, false, false, false]) rfl ?_
    refine TR.take 2 rfl (by kernel_rfl) (by kernel_rfl) (by kernel_rfl) (EvP.r (by exact EvP.isF (EvP.gt rfl rfl) (by simp))) (l' := #[true, true, true, false, false, false, false, false, false, false, false, false, false, false, false, false, false, false, false, false, false, false, false, false, false, false, false, false, false, false, false]) rfl ?_
    refine TR.take 3 rfl (by kernel_rfl) (by kernel_rfl) (by kernel_rfl) (EvP.r (by exact EvP.move rfl)) (l' := #[true, true, true, true, false, false, false, false, false, false, false, false, false, false, false, false, false, false, false, false, false, false, false, false, false, false, false, false, false, false, false]) rfl ?_
    refine TR.takeY 4 rfl rfl rfl rfl (by kernel_rfl) (by kernel_rfl) (by kernel_rfl) (EvP.r (by exact EvP.move rfl)) (l' := #[true, true, true, true, true, false, false, false, false, false, false, false, false, false, false, false, false, false, false, false, false, false, false, false, false, false, false, false, false, false, false]) rfl ?_
    refine TR.takeY 5 rfl rfl rfl rfl (by kernel_rfl) (by kernel_rfl) (by kernel_rfl) (EvP.r (by exact EvP.eq rfl rfl)) (l' := #[true, true, true, true, true, true, false, false, false, false, false, false, false, false, false, false, false, false, false, false, false, false, false, false, false, false, false, false, false, false, false]) rfl ?_
    refine TR.takeY 6 rfl rfl rfl rfl (by kernel_rfl) (by kernel_rfl) (by kernel_rfl) (EvP.r (by exact EvP.move rfl)) (l' := #[true, true, true, true, true, true, true, false, false, false, false, false, false, false, false, false, false, false, false, false, false, false, false, false, false, false, false, false, false, false, false]) rfl ?_
    refine TR.takeY 7 rfl rfl rfl rfl (by kernel_rfl) (by kernel_rfl) (by kernel_rfl) (EvP.r (by exact EvP.move rfl)) (l' := #[true, true, true, true, true, true, true, true, false, false, false, false, false, false, false, false, false, false, false, false, false, false, false, false, false, false, false, false, false, false, false]) rfl ?_
    refine TR.takeY 8 rfl rfl rfl rfl (by kernel_rfl) (by kernel_rfl) (by kernel_rfl) (EvP.r (by exact EvP.move rfl)) (l' := #[true, true, true, true, true, true, true, true, true, false, false, false, false, false, false, false, false, false, false, false, false, false, false, false, false, false, false, false, false, false, false]) rfl ?_
    refine TR.one (i := 9) (by kernel_rfl) ?_
    refine TRi.callG rfl rfl rfl rfl rfl rfl Try.call21 (fun w hs => g_of hG3 (pid := pid) (most := 2048) (by omega) hs) (l' := #[true, true, true, true, true, true, true, true, true, true, false, false, false, false, false, false, false, false, false, false, false, false, false, false, false, false, false, false, false, false, false]) rfl ?_
    rintro _ _ ⟨CO, rfl, ho⟩
    rw [of_endL] at ho
    obtain ⟨a6, c6, rfl, _, _⟩ := ho.len
    refine ⟨(fun w hs => SH.of hs (by repeat (first | exact Le.refl _ | exact Le.nil _ | refine Le.hit ?_ | refine Le.hit1 ?_ | refine Le.hit2 ?_ | refine Le.hit3 ?_ | refine Le.hit4 ?_ | refine Le.hit5 ?_ | refine Le.hit6 ?_ | refine Le.hit7 ?_ | refine Le.hit8 ?_ | refine Le.hit9 ?_ | refine Le.hit10 ?_ | refine Le.skip ?_))), ?_⟩
    refine TR.takeY 10 rfl rfl rfl rfl (by kernel_rfl) (by kernel_rfl) (by kernel_rfl) (EvP.r (by exact EvP.lenS Try.runUnderlying27 rfl)) (l' := #[true, true, true, true, true, true, true, true, true, true, true, false, false, false, false, false, false, false, false, false, false, false, false, false, false, false, false, false, false, false, false]) rfl ?_
    refine TR.takeY 11 rfl rfl rfl rfl (by kernel_rfl) (by kernel_rfl) (by kernel_rfl) (EvP.r (by exact EvP.isF (EvP.gt rfl rfl) (by simp))) (l' := #[true, true, true, true, true, true, true, true, true, true, true, true, false, false, false, false, false, false, false, false, false, false, false, false, false, false, false, false, false, false, false]) rfl ?_
    refine TR.takeY 12 rfl rfl rfl rfl (by kernel_rfl) (by kernel_rfl) (by kernel_rfl) (EvP.r (by exact EvP.pickT rfl rfl)) (l' := #[true, true, true, true, true, true, true, true, true, true, true, true, true, false, false, false, false, false, false, false, false, false, false, false, false, false, false, false, false, false, false]) rfl ?_
    refine TR.take 13 rfl (by kernel_rfl) (by kernel_rfl) (by kernel_rfl) (EvP.r (by exact EvP.pickF rfl rfl)) (l' := #[true, true, true, true, true, true, true, true, true, true, true, true, true, true, false, false, false, false, false, false, false, false, false, false, false, false, false, false, false, false, false]) rfl ?_
    refine TR.take 14 rfl (by kernel_rfl) (by kernel_rfl) (by kernel_rfl) (EvP.r (by exact EvP.move rfl)) (l' := #[true, true, true, true, true, true, true, true, true, true, true, true, true, true, true, false, false, false, false, false, false, false, false, false, false, false, false, false, false, false, false]) rfl ?_
    refine TR.takeY 15 rfl rfl rfl rfl (by kernel_rfl) (by kernel_rfl) (by kernel_rfl) (EvP.r (by exact EvP.move rfl)) (l' := #[true, true, true, true, true, true, true, true, true, true, true, true, true, true, true, true, false, false, false, false, false, false, false, false, false, false, false, false, false, false, false]) rfl ?_
    refine TR.takeY 16 rfl rfl rfl rfl (by kernel_rfl) (by kernel_rfl) (by kernel_rfl) (EvP.r (by exact EvP.eq rfl rfl)) (l' := #[true, true, true, true, true, true, true, true, true, true, true, true, true, true, true, true, true, false, false, false, false, false, false, false, false, false, false, false, false, false, false]) rfl ?_
    refine TR.takeY 17 rfl rfl rfl rfl (by kernel_rfl) (by kernel_rfl) (by kernel_rfl) (EvP.r (by exact EvP.move rfl)) (l' := #[true, true, true, true, true, true, true, true, true, true, true, true, true, true, true, true, true, true, false, false, false, false, false, false, false, false, false, false, false, false, false]) rfl ?_
    refine TR.takeY 18 rfl rfl rfl rfl (by kernel_rfl) (by kernel_rfl) (by kernel_rfl) (EvP.r (by exact EvP.move rfl)) (l' := #[true, true, true, true, true, true, true, true, true, true, true, true, true, true, true, true, true, true, true, false, false, false, false, false, false, false, false, false, false, false, false]) rfl ?_
    refine TR.takeY 20 rfl rfl rfl rfl (by kernel_rfl) (by kernel_rfl) (by kernel_rfl) (EvP.r (by exact EvP.move rfl)) (l' := #[true, true, true, true, true, true, true, true, true, true, true, true, true, true, true, true, true, true, true, false, true, false, false, false, false, false, false, false, false, false, false]) rfl ?_
    refine TR.takeY 21 rfl rfl rfl rfl (by kernel_rfl) (by kernel_rfl) (by kernel_rfl) (EvP.r (by exact EvP.nilP rfl)) (l' := #[true, true, true, true, true, true, true, true, true, true, true, true, true, true, true, true, true, true, true, false, true, true, false, false, false, false, false, false, false, false, false]) rfl ?_
    refine TR.takeY 22 rfl rfl rfl rfl (by kernel_rfl) (by kernel_rfl) (by kernel_rfl) (EvP.r (by exact EvP.fa (e := 0) rfl Try.runUnderlying29 rfl Try.sizeOf27 rfl)) (l' := #[true, true, true, true, true, true, true, true, true, true, true, true, true, true, true, true, true, true, true, false, true, true, true, false, false, false, false, false, false, false, false]) rfl ?_
    refine TR.takeY 23 rfl rfl rfl rfl (by kernel_rfl) (by kernel_rfl) (by kernel_rfl) (EvR.load rfl Try.isAgg27 (AtB.own' (by repeat (first | exact Has.hd | refine Has.tlb ?_ | refine Has.tlc ?_))) (by rfl)) (l' := #[true, true, true, true, true, true, true, true, true, true, true, true, true, true, true, true, true, true, true, false, true, true, true, true, false, false, false, false, false, false, false]) rfl ?_
    refine TR.takeY 24 rfl rfl rfl rfl (by kernel_rfl) (by kernel_rfl) (by kernel_rfl) (EvP.r (by exact EvP.lenS Try.runUnderlying27 rfl)) (l' := #[true, true, true, true, true, true, true, true, true, true, true, true, true, true, true, true, true, true, true, false, true, true, true, true, true, false, false, false, false, false, false]) rfl ?_
    refine TR.takeY 25 rfl rfl rfl rfl (by kernel_rfl) (by kernel_rfl) (by kernel_rfl) (EvP.r (by exact EvP.move rfl)) (l' := #[true, true, true, true, true, true, true, true, true, true, true, true, true, true, true, true, true, true, true, false, true, true, true, true, true, true, false, false, false, false, false]) rfl ?_
    refine TR.takeY 26 rfl rfl rfl rfl (by kernel_rfl) (by kernel_rfl) (by kernel_rfl) (EvP.r (by exact EvP.lenS Try.runUnderlying27 rfl)) (l' := #[true, true, true, true, true, true, true, true, true, true, true, true, true, true, true, true, true, true, true, false, true, true, true, true, true, true, true, false, false, false, false]) rfl ?_
    refine TR.takeY 27 rfl rfl rfl rfl (by kernel_rfl) (by kernel_rfl) (by kernel_rfl) (EvP.r (by exact EvP.sub rfl rfl (by omega))) (l' := #[true, true, true, true, true, true, true, true, true, true, true, true, true, true, true, true, true, true, true, false, true, true, true, true, true, true, true, true, false, false, false]) rfl ?_
    refine TR.one (i := 19) (by kernel_rfl) ?_
    refine TRi.le (Le.hit1 (Le.refl _)) ?_
    refine TRi.callG rfl rfl rfl rfl rfl rfl Try.call22 (fun w hs => g_len hG3 hs) (l' := #[true, true, true, true, true, true, true, true, true, true, true, true, true, true, true, true, true, true, true, true, true, true, true, true, true, true, true, true, false, false, false]) rfl ?_
    rintro _ _ ⟨C9, rfl, rfl, hC9⟩
    replace hC9 := hC9.symm
    subst hC9
    refine ⟨(fun w hs => SH.of hs (by repeat (first | exact Le.refl _ | exact Le.nil _ | refine Le.hit ?_ | refine Le.hit1 ?_ | refine Le.hit2 ?_ | refine Le.hit3 ?_ | refine Le.hit4 ?_ | refine Le.hit5 ?_ | refine Le.hit6 ?_ | refine Le.hit7 ?_ | refine Le.hit8 ?_ | refine Le.hit9 ?_ | refine Le.hit10 ?_ | refine Le.skip ?_))), ?_⟩
    refine TR.takeY 28 rfl rfl rfl rfl (by kernel_rfl) (by kernel_rfl) (by kernel_rfl) (EvP.r (by exact EvP.isF (EvP.ne rfl rfl) (by have hq := len_split L pid; omega))) (l' := #[true, true, true, true, true, true, true, true, true, true, true, true, true, true, true, true, true, true, true, true, true, true, true, true, true, true, true, true, true, false, false]) rfl ?_
    refine TR.takeY 29 rfl rfl rfl rfl (by kernel_rfl) (by kernel_rfl) (by kernel_rfl) (EvP.r (by exact EvP.pickT rfl rfl)) (l' := #[true, true, true, true, true, true, true, true, true, true, true, true, true, true, true, true, true, true, true, true, true, true, true, true, true, true, true, true, true, true, false]) rfl ?_
    refine TR.take 30 rfl (by kernel_rfl) (by kernel_rfl) (by kernel_rfl) (EvP.r (by exact EvP.pickF rfl rfl)) (l' := #[true, true, true, true, true, true, true, true, true, true, true, true, true, true, true, true, true, true, true, true, true, true, true, true, true, true, true, true, true, true, true]) rfl ?_
    refine TR.done (by kernel_rfl) ?_
    refine TX.thenN rfl rfl ?_
    refine TC.cfalse rfl ?_
    refine TC.skip ?_
    refine TX.thenN rfl rfl ?_
    refine TC.seq ?_
    refine TC.seq ?_
    refine TC.region ?_
    refine TL.p (EvP.move rfl) ?_
    refine TL.p (EvP.lenS Try.runUnderlying27 rfl) ?_
    refine TL.p (EvP.move rfl) ?_
    refine TL.nil ?_
    refine TX.thenN rfl rfl ?_
    refine TC.block ?_
    refine TC.loop (ι := Nat) (fun i => [(83, .slice a4 (endT L pid).length c4), (84, .int .i64 (endT L pid).length), (85, .int .i64 i), (1, .int .i64 pid)]) (fun i => CT :: R) (fun i => i ≤ (endT L pid).length) (fun i => (endT L pid).length - i) (0) (by omega) ⟨rfl, rfl, rfl, rfl, trivial⟩ (by repeat (first | exact Le.refl _ | exact Le.nil _ | refine Le.hit ?_ | refine Le.hit1 ?_ | refine Le.hit2 ?_ | refine Le.hit3 ?_ | refine Le.hit4 ?_ | refine Le.hit5 ?_ | refine Le.hit6 ?_ | refine Le.hit7 ?_ | refine Le.hit8 ?_ | refine Le.hit9 ?_ | refine Le.hit10 ?_ | refine Le.skip ?_)) ?_
    rintro i hi
    change TC _ _ [(83, .slice a4 (endT L pid).length c4), (84, .int .i64 (endT L pid).length), (85, .int .i64 i), (1, .int .i64 pid)] (CT :: R) _
    refine TC.seq ?_
    refine TC.region ?_
    refine TL.dec (EvP.lt rfl rfl) (fun h86 => ?_) (fun h86 => ?_)
    · refine TL.nil ?_
      refine TX.thenN rfl rfl ?_
      refine TC.seq ?_
      refine TC.ctrue rfl ?_
      refine TC.skip ?_
      refine TX.thenN rfl rfl ?_
      refine TC.seq ?_
      refine TC.block ?_
      refine TC.seq ?_
      refine TC.region ?_
      have hlt : i < (endT L pid).length := by omega
      obtain ⟨x, hx⟩ : ∃ x, (endT L pid)[i]? = some x := ⟨_, List.getElem?_eq_getElem hlt⟩
      have hm2 := mem_endT (List.mem_of_getElem? hx)
      refine TL.elem (ht.el encB_ok hx (by simp)) Try.runUnderlying27 Try.sizeOf48 rfl rfl (fun bE oE lE _ _ hE hcE => ?_)
      refine TL.r (EvR.loadN (vs := [_, _, _]) rfl Try.isAgg48 Try.sizeOf48 hE hcE) ?_
      refine TL.alloc Try.zeroValue48 rfl (fun b13 => ?_)
      refine TL.u (EvU.store rfl rfl Try.sizeOf48 rfl rfl rfl rfl (by repeat (first | exact Has.hd | refine Has.tlb ?_ | refine Has.tlc ?_)) (by repeat (first | exact SetLs.nil | exact SetL.here | apply SetLs.cons | apply SetL.there)) (by repeat (first | exact Upd.hd | apply Upd.tlb | apply Upd.tlc))) ?_
      refine TL.nil ?_
      refine TX.thenN rfl rfl ?_
      refine TC.seq ?_
      refine TC.region ?_
      refine TL.p (EvP.fa (e := 2) rfl Try.runUnderlying48 rfl Try.sizeOf2 rfl) ?_
      refine TL.r (EvR.load rfl Try.isAgg2 (AtB.own (by repeat (first | exact Has.hd | refine Has.tlb ?_ | refine Has.tlc ?_))) (by rfl)) ?_
      refine TL.dec (EvP.eq rfl rfl) (fun h91 => ?_) (fun h91 => ?_)
      · refine TL.p (EvP.move rfl) ?_
        refine TL.gY rfl rfl rfl ?_
        refine TL.p (EvP.fa (e := 0) rfl Try.runUnderlying48 rfl Try.sizeOf2 rfl) ?_
        refine TL.gY rfl rfl rfl ?_
        refine TL.r (EvR.load rfl Try.isAgg2 (AtB.own (by repeat (first | exact Has.hd | refine Has.tlb ?_ | refine Has.tlc ?_))) (by rfl)) ?_
        refine TL.gY rfl rfl rfl ?_
        refine TL.p (EvP.move rfl) ?_
        refine TL.gY rfl rfl rfl ?_
        refine TL.dec (EvP.ne rfl rfl) (fun h96 => ?_) (fun h96 => ?_)
        · refine TL.p (EvP.pickT rfl rfl) ?_
          refine TL.p (EvP.move rfl) ?_
          refine TL.gY rfl rfl rfl ?_
          refine TL.p (EvP.fa (e := 1) rfl Try.runUnderlying48 rfl Try.sizeOf2 rfl) ?_
          refine TL.gY rfl rfl rfl ?_
          refine TL.r (EvR.load rfl Try.isAgg2 (AtB.own (by repeat (first | exact Has.hd | refine Has.tlb ?_ | refine Has.tlc ?_))) (by rfl)) ?_
          refine TL.gY rfl rfl rfl ?_
          refine TL.p (EvP.move rfl) ?_
          refine TL.gY rfl rfl rfl ?_
          refine TL.dec (EvP.ne rfl rfl) (fun h102 => ?_) (fun h102 => ?_)
          · refine TL.p (EvP.pickT rfl rfl) ?_
            refine TL.p (EvP.move rfl) ?_
            refine TL.gN rfl rfl rfl ?_
            refine TL.gN rfl rfl rfl ?_
            refine TL.gN rfl rfl rfl ?_
            refine TL.gN rfl rfl rfl ?_
            refine TL.gU rfl rfl ?_
            refine TL.gU rfl rfl ?_
            refine TL.gU rfl rfl ?_
            refine TL.gU rfl rfl ?_
            refine TL.gU rfl rfl ?_
            refine TL.gU rfl rfl ?_
            refine TL.gU rfl rfl ?_
            refine TL.gU rfl rfl ?_
            refine TL.gU rfl rfl ?_
            refine TL.gU rfl rfl ?_
            refine TL.gN rfl rfl rfl ?_
            refine TL.p (EvP.pickT rfl rfl) ?_
            refine TL.nil ?_
            refine TX.thenN rfl rfl ?_
            refine TC.ctrue rfl ?_
            refine TC.seq ?_
            refine TC.region ?_
            exfalso
            omega
          · refine TL.p (EvP.pickT rfl rfl) ?_
            refine TL.p (EvP.move rfl) ?_
            refine TL.gY rfl rfl rfl ?_
            refine TL.p (EvP.fa (e := 2) rfl Try.runUnderlying48 rfl Try.sizeOf2 rfl) ?_
            refine TL.gY rfl rfl rfl ?_
            refine TL.r (EvR.load rfl Try.isAgg2 (AtB.own (by repeat (first | exact Has.hd | refine Has.tlb ?_ | refine Has.tlc ?_))) (by rfl)) ?_
            refine TL.gY rfl rfl rfl ?_
            refine TL.dec (EvP.gt rfl rfl) (fun h107 => ?_) (fun h107 => ?_)
            · refine TL.gY rfl rfl rfl ?_
              refine TL.p (EvP.move rfl) ?_
              refine TL.gY rfl rfl rfl ?_
              refine TL.p (EvP.fa (e := 1) rfl Try.runUnderlying48 rfl Try.sizeOf2 rfl) ?_
              refine TL.gY rfl rfl rfl ?_
              refine TL.r (EvR.load rfl Try.isAgg2 (AtB.own (by repeat (first | exact Has.hd | refine Has.tlb ?_ | refine Has.tlc ?_))) (by rfl)) ?_
              refine TL.gY rfl rfl rfl ?_
              refine TL.p (EvP.move rfl) ?_
              refine TL.gY rfl rfl rfl ?_
              refine TL.dec (EvP.ne rfl rfl) (fun h112 => ?_) (fun h112 => ?_)
              · refine TL.gY rfl rfl rfl ?_
                refine TL.p (EvP.move rfl) ?_
                refine TL.gN rfl rfl rfl ?_
                refine TL.gN rfl rfl rfl ?_
                refine TL.gN rfl rfl rfl ?_
                refine TL.gN rfl rfl rfl ?_
                refine TL.gY rfl rfl rfl ?_
                refine TL.p (EvP.pickT rfl rfl) ?_
                refine TL.gY rfl rfl rfl ?_
                refine TL.p (EvP.pickT rfl rfl) ?_
                refine TL.p (EvP.pickF rfl rfl) ?_
                refine TL.nil ?_
                refine TX.thenN rfl rfl ?_
                refine TC.ctrue rfl ?_
                refine TC.seq ?_
                refine TC.region ?_
                exfalso
                omega
              · refine TL.gY rfl rfl rfl ?_
                refine TL.p (EvP.move rfl) ?_
                refine TL.gY rfl rfl rfl ?_
                refine TL.p (EvP.fa (e := 0) rfl Try.runUnderlying48 rfl Try.sizeOf2 rfl) ?_
                refine TL.gY rfl rfl rfl ?_
                refine TL.r (EvR.load rfl Try.isAgg2 (AtB.own (by repeat (first | exact Has.hd | refine Has.tlb ?_ | refine Has.tlc ?_))) (by rfl)) ?_
                refine TL.gY rfl rfl rfl ?_
                refine TL.p (EvP.move rfl) ?_
                refine TL.gY rfl rfl rfl ?_
                refine TL.dec (EvP.eq rfl rfl) (fun h117 => ?_) (fun h117 => ?_)
                · refine TL.gY rfl rfl rfl ?_
                  refine TL.p (EvP.pickF rfl rfl) ?_
                  refine TL.gY rfl rfl rfl ?_
                  refine TL.p (EvP.pickT rfl rfl) ?_
                  refine TL.p (EvP.pickF rfl rfl) ?_
                  refine TL.nil ?_
                  refine TX.thenN rfl rfl ?_
                  refine TC.ctrue rfl ?_
                  refine TC.seq ?_
                  refine TC.region ?_
                  exfalso
                  omega
                · refine TL.gY rfl rfl rfl ?_
                  refine TL.p (EvP.pickF rfl rfl) ?_
                  refine TL.gY rfl rfl rfl ?_
                  refine TL.p (EvP.pickT rfl rfl) ?_
                  refine TL.p (EvP.pickF rfl rfl) ?_
                  refine TL.nil ?_
                  refine TX.thenN rfl rfl ?_
                  refine TC.cfalse rfl ?_
                  refine TC.skip ?_
                  refine TX.blkN ?_
                  refine TX.thenN rfl rfl ?_
                  refine TC.region ?_
                  refine TL.p (EvP.add rfl rfl (by omega)) ?_
                  refine TL.p (EvP.move rfl) ?_
                  refine TL.nil ?_
                  refine TX.back (i + 1) (by omega) (by omega) ⟨rfl, rfl, rfl, rfl, trivial⟩ (by repeat (first | exact Le.refl _ | exact Le.nil _ | refine Le.hit ?_ | refine Le.hit1 ?_ | refine Le.hit2 ?_ | refine Le.hit3 ?_ | refine Le.hit4 ?_ | refine Le.hit5 ?_ | refine Le.hit6 ?_ | refine Le.hit7 ?_ | refine Le.hit8 ?_ | refine Le.hit9 ?_ | refine Le.hit10 ?_ | refine Le.skip ?_))
            · refine TL.gY rfl rfl rfl ?_
              refine TL.p (EvP.move rfl) ?_
              refine TL.gN rfl rfl rfl ?_
              refine TL.gN rfl rfl rfl ?_
              refine TL.gN rfl rfl rfl ?_
              refine TL.gN rfl rfl rfl ?_
              refine TL.gN rfl rfl rfl ?_
              refine TL.gU rfl rfl ?_
              refine TL.gU rfl rfl ?_
              refine TL.gU rfl rfl ?_
              refine TL.gU rfl rfl ?_
              refine TL.gN rfl rfl rfl ?_
              refine TL.gY rfl rfl rfl ?_
              refine TL.p (EvP.pickF rfl rfl) ?_
              refine TL.p (EvP.pickF rfl rfl) ?_
              refine TL.nil ?_
              refine TX.thenN rfl rfl ?_
              refine TC.cfalse rfl ?_
              refine TC.skip ?_
              refine TX.blkN ?_
              refine TX.thenN rfl rfl ?_
              refine TC.region ?_
              refine TL.p (EvP.add rfl rfl (by omega)) ?_
              refine TL.p (EvP.move rfl) ?_
              refine TL.nil ?_
              refine TX.back (i + 1) (by omega) (by omega) ⟨rfl, rfl, rfl, rfl, trivial⟩ (by repeat (first | exact Le.refl _ | exact Le.nil _ | refine Le.hit ?_ | refine Le.hit1 ?_ | refine Le.hit2 ?_ | refine Le.hit3 ?_ | refine Le.hit4 ?_ | refine Le.hit5 ?_ | refine Le.hit6 ?_ | refine Le.hit7 ?_ | refine Le.hit8 ?_ | refine Le.hit9 ?_ | refine Le.hit10 ?_ | refine Le.skip ?_))
        · refine TL.p (EvP.pickT rfl rfl) ?_
          refine TL.p (EvP.move rfl) ?_
          refine TL.gN rfl rfl rfl ?_
          refine TL.gN rfl rfl rfl ?_
          refine TL.gN rfl rfl rfl ?_
          refine TL.gN rfl rfl rfl ?_
          refine TL.p (EvP.pickF rfl rfl) ?_
          refine TL.p (EvP.move rfl) ?_
          refine TL.gY rfl rfl rfl ?_
          refine TL.p (EvP.fa (e := 2) rfl Try.runUnderlying48 rfl Try.sizeOf2 rfl) ?_
          refine TL.gY rfl rfl rfl ?_
          refine TL.r (EvR.load rfl Try.isAgg2 (AtB.own (by repeat (first | exact Has.hd | refine Has.tlb ?_ | refine Has.tlc ?_))) (by rfl)) ?_
          refine TL.gY rfl rfl rfl ?_
          refine TL.dec (EvP.gt rfl rfl) (fun h107 => ?_) (fun h107 => ?_)
          · refine TL.gY rfl rfl rfl ?_
            refine TL.p (EvP.move rfl) ?_
            refine TL.gY rfl rfl rfl ?_
            refine TL.p (EvP.fa (e := 1) rfl Try.runUnderlying48 rfl Try.sizeOf2 rfl) ?_
            refine TL.gY rfl rfl rfl ?_
            refine TL.r (EvR.load rfl Try.isAgg2 (AtB.own (by repeat (first | exact Has.hd | refine Has.tlb ?_ | refine Has.tlc ?_))) (by rfl)) ?_
            refine TL.gY rfl rfl rfl ?_
            refine TL.p (EvP.move rfl) ?_
            refine TL.gY rfl rfl rfl ?_
            refine TL.dec (EvP.ne rfl rfl) (fun h112 => ?_) (fun h112 => ?_)
            · refine TL.gY rfl rfl rfl ?_
              refine TL.p (EvP.move rfl) ?_
              refine TL.gN rfl rfl rfl ?_
              refine TL.gN rfl rfl rfl ?_
              refine TL.gN rfl rfl rfl ?_
              refine TL.gN rfl rfl rfl ?_
              refine TL.gY rfl rfl rfl ?_
              refine TL.p (EvP.pickT rfl rfl) ?_
              refine TL.gY rfl rfl rfl ?_
              refine TL.p (EvP.pickT rfl rfl) ?_
              refine TL.p (EvP.pickF rfl rfl) ?_
              refine TL.nil ?_
              refine TX.thenN rfl rfl ?_
              refine TC.ctrue rfl ?_
              refine TC.seq ?_
              refine TC.region ?_
              exfalso
              omega
            · refine TL.gY rfl rfl rfl ?_
              refine TL.p (EvP.move rfl) ?_
              refine TL.gY rfl rfl rfl ?_
              refine TL.p (EvP.fa (e := 0) rfl Try.runUnderlying48 rfl Try.sizeOf2 rfl) ?_
              refine TL.gY rfl rfl rfl ?_
              refine TL.r (EvR.load rfl Try.isAgg2 (AtB.own (by repeat (first | exact Has.hd | refine Has.tlb ?_ | refine Has.tlc ?_))) (by rfl)) ?_
              refine TL.gY rfl rfl rfl ?_
              refine TL.p (EvP.move rfl) ?_
              refine TL.gY rfl rfl rfl ?_
              refine TL.dec (EvP.eq rfl rfl) (fun h117 => ?_) (fun h117 => ?_)
              · refine TL.gY rfl rfl rfl ?_
                refine TL.p (EvP.pickF rfl rfl) ?_
                refine TL.gY rfl rfl rfl ?_
                refine TL.p (EvP.pickT rfl rfl) ?_
                refine TL.p (EvP.pickF rfl rfl) ?_
                refine TL.nil ?_
                refine TX.thenN rfl rfl ?_
                refine TC.ctrue rfl ?_
                refine TC.seq ?_
                refine TC.region ?_
                exfalso
                omega
              · refine TL.gY rfl rfl rfl ?_
                refine TL.p (EvP.pickF rfl rfl) ?_
                refine TL.gY rfl rfl rfl ?_
                refine TL.p (EvP.pickT rfl rfl) ?_
                refine TL.p (EvP.pickF rfl rfl) ?_
                refine TL.nil ?_
                refine TX.thenN rfl rfl ?_
                refine TC.cfalse rfl ?_
                refine TC.skip ?_
                refine TX.blkN ?_
                refine TX.thenN rfl rfl ?_
                refine TC.region ?_
                refine TL.p (EvP.add rfl rfl (by omega)) ?_
                refine TL.p (EvP.move rfl) ?_
                refine TL.nil ?_
                refine TX.back (i + 1) (by omega) (by omega) ⟨rfl, rfl, rfl, rfl, trivial⟩ (by repeat (first | exact Le.refl _ | exact Le.nil _ | refine Le.hit ?_ | refine Le.hit1 ?_ | refine Le.hit2 ?_ | refine Le.hit3 ?_ | refine Le.hit4 ?_ | refine Le.hit5 ?_ | refine Le.hit6 ?_ | refine Le.hit7 ?_ | refine Le.hit8 ?_ | refine Le.hit9 ?_ | refine Le.hit10 ?_ | refine Le.skip ?_))
          · refine TL.gY rfl rfl rfl ?_
            refine TL.p (EvP.move rfl) ?_
            refine TL.gN rfl rfl rfl ?_
            refine TL.gN rfl rfl rfl ?_
            refine TL.gN rfl rfl rfl ?_
            refine TL.gN rfl rfl rfl ?_
            refine TL.gN rfl rfl rfl ?_
            refine TL.gU rfl rfl ?_
            refine TL.gU rfl rfl ?_
            refine TL.gU rfl rfl ?_
            refine TL.gU rfl rfl ?_
            refine TL.gN rfl rfl rfl ?_
            refine TL.gY rfl rfl rfl ?_
            refine TL.p (EvP.pickF rfl rfl) ?_
            refine TL.p (EvP.pickF rfl rfl) ?_
            refine TL.nil ?_
            refine TX.thenN rfl rfl ?_
            refine TC.cfalse rfl ?_
            refine TC.skip ?_
            refine TX.blkN ?_
            refine TX.thenN rfl rfl ?_
            refine TC.region ?_
            refine TL.p (EvP.add rfl rfl (by omega)) ?_
            refine TL.p (EvP.move rfl) ?_
            refine TL.nil ?_
            refine TX.back (i + 1) (by omega) (by omega) ⟨rfl, rfl, rfl, rfl, trivial⟩ (by repeat (first | exact Le.refl _ | exact Le.nil _ | refine Le.hit ?_ | refine Le.hit1 ?_ | refine Le.hit2 ?_ | refine Le.hit3 ?_ | refine Le.hit4 ?_ | refine Le.hit5 ?_ | refine Le.hit6 ?_ | refine Le.hit7 ?_ | refine Le.hit8 ?_ | refine Le.hit9 ?_ | refine Le.hit10 ?_ | refine Le.skip ?_))
      · refine TL.p (EvP.move rfl) ?_
        refine TL.gN rfl rfl rfl ?_
        refine TL.gN rfl rfl rfl ?_
        refine TL.gN rfl rfl rfl ?_
        refine TL.gN rfl rfl rfl ?_
        refine TL.p (EvP.pickF rfl rfl) ?_
        refine TL.p (EvP.move rfl) ?_
        refine TL.gN rfl rfl rfl ?_
        refine TL.gN rfl rfl rfl ?_
        refine TL.gN rfl rfl rfl ?_
        refine TL.gN rfl rfl rfl ?_
        refine TL.p (EvP.pickF rfl rfl) ?_
        refine TL.p (EvP.move rfl) ?_
        refine TL.gY rfl rfl rfl ?_
        refine TL.p (EvP.fa (e := 2) rfl Try.runUnderlying48 rfl Try.sizeOf2 rfl) ?_
        refine TL.gY rfl rfl rfl ?_
        refine TL.r (EvR.load rfl Try.isAgg2 (AtB.own (by repeat (first | exact Has.hd | refine Has.tlb ?_ | refine Has.tlc ?_))) (by rfl)) ?_
        refine TL.gY rfl rfl rfl ?_
        refine TL.dec (EvP.gt rfl rfl) (fun h107 => ?_) (fun h107 => ?_)
        · refine TL.gY rfl rfl rfl ?_
          refine TL.p (EvP.move rfl) ?_
          refine TL.gY rfl rfl rfl ?_
          refine TL.p (EvP.fa (e := 1) rfl Try.runUnderlying48 rfl Try.sizeOf2 rfl) ?_
          refine TL.gY rfl rfl rfl ?_
          refine TL.r (EvR.load rfl Try.isAgg2 (AtB.own (by repeat (first | exact Has.hd | refine Has.tlb ?_ | refine Has.tlc ?_))) (by rfl)) ?_
          refine TL.gY rfl rfl rfl ?_
          refine TL.p (EvP.move rfl) ?_
          refine TL.gY rfl rfl rfl ?_
          refine TL.dec (EvP.ne rfl rfl) (fun h112 => ?_) (fun h112 => ?_)
          · refine TL.gY rfl rfl rfl ?_
            refine TL.p (EvP.move rfl) ?_
            refine TL.gN rfl rfl rfl ?_
            refine TL.gN rfl rfl rfl ?_
            refine TL.gN rfl rfl rfl ?_
            refine TL.gN rfl rfl rfl ?_
            refine TL.gY rfl rfl rfl ?_
            refine TL.p (EvP.pickT rfl rfl) ?_
            refine TL.gY rfl rfl rfl ?_
            refine TL.p (EvP.pickT rfl rfl) ?_
            refine TL.p (EvP.pickF rfl rfl) ?_
            refine TL.nil ?_
            refine TX.thenN rfl rfl ?_
            refine TC.ctrue rfl ?_
            refine TC.seq ?_
            refine TC.region ?_
            exfalso
            omega
          · refine TL.gY rfl rfl rfl ?_
            refine TL.p (EvP.move rfl) ?_
            refine TL.gY rfl rfl rfl ?_
            refine TL.p (EvP.fa (e := 0) rfl Try.runUnderlying48 rfl Try.sizeOf2 rfl) ?_
            refine TL.gY rfl rfl rfl ?_
            refine TL.r (EvR.load rfl Try.isAgg2 (AtB.own (by repeat (first | exact Has.hd | refine Has.tlb ?_ | refine Has.tlc ?_))) (by rfl)) ?_
            refine TL.gY rfl rfl rfl ?_
            refine TL.p (EvP.move rfl) ?_
            refine TL.gY rfl rfl rfl ?_
            refine TL.dec (EvP.eq rfl rfl) (fun h117 => ?_) (fun h117 => ?_)
            · refine TL.gY rfl rfl rfl ?_
              refine TL.p (EvP.pickF rfl rfl) ?_
              refine TL.gY rfl rfl rfl ?_
              refine TL.p (EvP.pickT rfl rfl) ?_
              refine TL.p (EvP.pickF rfl rfl) ?_
              refine TL.nil ?_
              refine TX.thenN rfl rfl ?_
              refine TC.ctrue rfl ?_
              refine TC.seq ?_
              refine TC.region ?_
              exfalso
              omega
            · refine TL.gY rfl rfl rfl ?_
              refine TL.p (EvP.pickF rfl rfl) ?_
              refine TL.gY rfl rfl rfl ?_
              refine TL.p (EvP.pickT rfl rfl) ?_
              refine TL.p (EvP.pickF rfl rfl) ?_
              refine TL.nil ?_
              refine TX.thenN rfl rfl ?_
              refine TC.cfalse rfl ?_
              refine TC.skip ?_
              refine TX.blkN ?_
              refine TX.thenN rfl rfl ?_
              refine TC.region ?_
              refine TL.p (EvP.add rfl rfl (by omega)) ?_
              refine TL.p (EvP.move rfl) ?_
              refine TL.nil ?_
              refine TX.back (i + 1) (by omega) (by omega) ⟨rfl, rfl, rfl, rfl, trivial⟩ (by repeat (first | exact Le.refl _ | exact Le.nil _ | refine Le.hit ?_ | refine Le.hit1 ?_ | refine Le.hit2 ?_ | refine Le.hit3 ?_ | refine Le.hit4 ?_ | refine Le.hit5 ?_ | refine Le.hit6 ?_ | refine Le.hit7 ?_ | refine Le.hit8 ?_ | refine Le.hit9 ?_ | refine Le.hit10 ?_ | refine Le.skip ?_))
        · refine TL.gY rfl rfl rfl ?_
          refine TL.p (EvP.move rfl) ?_
          refine TL.gN rfl rfl rfl ?_
          refine TL.gN rfl rfl rfl ?_
          refine TL.gN rfl rfl rfl ?_
          refine TL.gN rfl rfl rfl ?_
          refine TL.gN rfl rfl rfl ?_
          refine TL.gU rfl rfl ?_
          refine TL.gU rfl rfl ?_
          refine TL.gU rfl rfl ?_
          refine TL.gU rfl rfl ?_
          refine TL.gN rfl rfl rfl ?_
          refine TL.gY rfl rfl rfl ?_
          refine TL.p (EvP.pickF rfl rfl) ?_
          refine TL.p (EvP.pickF rfl rfl) ?_
          refine TL.nil ?_
          refine TX.thenN rfl rfl ?_
          refine TC.cfalse rfl ?_
          refine TC.skip ?_
          refine TX.blkN ?_
          refine TX.thenN rfl rfl ?_
          refine TC.region ?_
          refine TL.p (EvP.add rfl rfl (by omega)) ?_
          refine TL.p (EvP.move rfl) ?_
          refine TL.nil ?_
          refine TX.back (i + 1) (by omega) (by omega) ⟨rfl, rfl, rfl, rfl, trivial⟩ (by repeat (first | exact Le.refl _ | exact Le.nil _ | refine Le.hit ?_ | refine Le.hit1 ?_ | refine Le.hit2 ?_ | refine Le.hit3 ?_ | refine Le.hit4 ?_ | refine Le.hit5 ?_ | refine Le.hit6 ?_ | refine Le.hit7 ?_ | refine Le.hit8 ?_ | refine Le.hit9 ?_ | refine Le.hit10 ?_ | refine Le.skip ?_))
    · refine TL.nil ?_
      refine TX.thenN rfl rfl ?_
      refine TC.seq ?_
      refine TC.cfalse rfl ?_
      refine TC.exit ?_
      refine TX.thenE ?_
      refine TX.thenE ?_
      refine TX.blkH ?_
      refine TX.thenN rfl rfl ?_
      refine TC.seq ?_
      refine TC.region ?_
      refine TL.callA rfl rfl Try.call16 (fun w hs => awake_spec hs) ?_
      rintro _ rfl
      refine TL.p (EvP.assign rfl) ?_
      refine TL.nil ?_
      refine TX.thenN rfl rfl ?_
      refine TC.ret ?_
      refine TX.done rfl (Res.one rfl rfl) (fun w hs => Post0.mk hs ?_ (by repeat (first | exact Le.refl _ | exact Le.nil _ | refine Le.hit ?_ | refine Le.hit1 ?_ | refine Le.hit2 ?_ | refine Le.hit3 ?_ | refine Le.hit4 ?_ | refine Le.hit5 ?_ | refine Le.hit6 ?_ | refine Le.hit7 ?_ | refine Le.hit8 ?_ | refine Le.hit9 ?_ | refine Le.hit10 ?_ | refine Le.skip ?_)))
      rfl
  · have hp : okPid pid = false := by simpa using hp
    refine TL.le (Le.hit3 (Le.refl _)) ?_
    refine TL.callB rfl rfl Try.call19 (fun w hs => g_endN hG pid hp hs) ?_
    rintro _ C9 ⟨rfl, hC9⟩
    replace hC9 := hC9.symm
    subst hC9
    refine TL.p (EvP.move rfl) ?_
    refine TL.p (EvP.extract rfl rfl) ?_
    refine TL.p (EvP.extract rfl rfl) ?_
    refine TL.p (EvP.assign rfl) ?_
    refine TL.p (EvP.assign rfl) ?_
    refine TL.nil ?_
    refine TX.thenN rfl rfl ?_
    refine TC.seq ?_
    refine TC.region ?_
    refine TL.p (EvP.move rfl) ?_
    refine TL.p (EvP.move rfl) ?_
    refine TL.callB rfl rfl Try.call19 (fun w hs => g_endN hG pid hp hs) ?_
    rintro _ C9 ⟨rfl, hC9⟩
    replace hC9 := hC9.symm
    subst hC9
    refine TL.p (EvP.move rfl) ?_
    refine TL.p (EvP.extract rfl rfl) ?_
    refine TL.p (EvP.extract rfl rfl) ?_
    refine TL.p (EvP.assign rfl) ?_
    refine TL.p (EvP.assign rfl) ?_
    refine TL.nil ?_
    refine TX.thenN rfl rfl ?_
    refine TC.seq ?_
    refine TC.seq ?_
    refine TC.region ?_
    refine TL.p (EvP.move rfl) ?_
    refine TL.p (EvP.move rfl) ?_
    refine TL.p (EvP.ne rfl rfl) ?_
    refine TL.p (EvP.move rfl) ?_
    refine TL.gY rfl rfl rfl ?_
    refine TL.p (EvP.move rfl) ?_
    refine TL.gY rfl rfl rfl ?_
    refine TL.p (EvP.ne rfl rfl) ?_
    refine TL.gY rfl rfl rfl ?_
    refine TL.p (EvP.move rfl) ?_
    refine TL.gY rfl rfl rfl ?_
    refine TL.p (EvP.move rfl) ?_
    refine TL.gY rfl rfl rfl ?_
    refine TL.callA rfl rfl Try.call20 (fun w hs => rPid_no hp hs) ?_
    rintro _ rfl
    refine TL.gY rfl rfl rfl ?_
    refine TL.p (EvP.move rfl) ?_
    refine TL.gY rfl rfl rfl ?_
    refine TL.p (EvP.move rfl) ?_
    refine TL.gY rfl rfl rfl ?_
    refine TL.p (EvP.lenS Try.runUnderlying27 rfl) ?_
    refine TL.gY rfl rfl rfl ?_
    refine TL.p (EvP.gt rfl rfl) ?_
    refine TL.gY rfl rfl rfl ?_
    refine TL.p (EvP.pickF rfl rfl) ?_
    refine TL.gY rfl rfl rfl ?_
    refine TL.p (EvP.pickT rfl rfl) ?_
    refine TL.p (EvP.pickF rfl rfl) ?_
    refine TL.nil ?_
    refine TX.thenN rfl rfl ?_
    refine TC.cfalse rfl ?_
    refine TC.skip ?_
    refine TX.thenN rfl rfl ?_
    refine TC.seq ?_
    refine TC.seq ?_
    refine TC.drawn (listed := #[false, false, false, false, false, false, false, false, false, false, false, false, false, false, false, false, false, false, false, false, false, false, false, false, false, false, false, false, false, false, false]) 31 (SH w0 [[(rr, .cells [.slice a3 L.length c3].toArray 29 (0, 0))]]) rfl rfl rfl rfl (fun w hs => SH.of hs (by repeat (first | exact Le.refl _ | exact Le.nil _ | refine Le.hit ?_ | refine Le.hit1 ?_ | refine Le.hit2 ?_ | refine Le.hit3 ?_ | refine Le.hit4 ?_ | refine Le.hit5 ?_ | refine Le.hit6 ?_ | refine Le.hit7 ?_ | refine Le.hit8 ?_ | refine Le.hit9 ?_ | refine Le.hit10 ?_ | refine Le.skip ?_))) ?_
    refine TR.take 0 rfl (by kernel_rfl) (by kernel_rfl) (by kernel_rfl) (EvP.r (by exact EvP.move rfl)) (l' := #[true, false, false, false, false, false, false, false, false, false, false, false, false, false, false, false, false, false, false, false, false, false, false, false, false, false, false, false, false, false, false]) rfl ?_
    refine TR.take 1 rfl (by kernel_rfl) (by kernel_rfl) (by kernel_rfl) (EvP.r (by exact EvP.lenS Try.runUnderlying27 rfl)) (l' := #[true, true, false, false, false, false, false, false, false, false, false, false, false, false, false, false, false, false, false, false, false, false, false, false, false, false, false, false, false, false, false]) rfl ?_
    refine TR.take 2 rfl (by kernel_rfl) (by kernel_rfl) (by kernel_rfl) (EvP.r (by exact EvP.gt rfl rfl)) (l' := #[true, true, true, false, false, false, false, false, false, false, false, false, false, false, false, false, false, false, false, false, false, false, false, false, false, false, false, false, false, false, false]) rfl ?_
    refine TR.take 3 rfl (by kernel_rfl) (by kernel_rfl) (by kernel_rfl) (EvP.r (by exact EvP.move rfl)) (l' := #[true, true, true, true, false, false, false, false, false, false, false, false, false, false, false, false, false, false, false, false, false, false, false, false, false, false, false, false, false, false, false]) rfl ?_
    refine TR.takeY 4 rfl rfl rfl rfl (by kernel_rfl) (by kernel_rfl) (by kernel_rfl) (EvP.r (by exact EvP.move rfl)) (l' := #[true, true, true, true, true, false, false, false, false, false, false, false, false, false, false, false, false, false, false, false, false, false, false, false, false, false, false, false, false, false, false]) rfl ?_
    refine TR.takeY 5 rfl rfl rfl rfl (by kernel_rfl) (by kernel_rfl) (by kernel_rfl) (EvP.r (by exact EvP.eq rfl rfl)) (l' := #[true, true, true, true, true, true, false, false, false, false, false, false, false, false, false, false, false, false, false, false, false, false, false, false, false, false, false, false, false, false, false]) rfl ?_
    refine TR.takeY 6 rfl rfl rfl rfl (by kernel_rfl) (by kernel_rfl) (by kernel_rfl) (EvP.r (by exact EvP.move rfl)) (l' := #[true, true, true, true, true, true, true, false, false, false, false, false, false, false, false, false, false, false, false, false, false, false, false, false, false, false, false, false, false, false, false]) rfl ?_
    refine TR.takeN 7 rfl rfl rfl rfl (by kernel_rfl) (by kernel_rfl) (by kernel_rfl) (l' := #[true, true, true, true, true, true, true, true, false, false, false, false, false, false, false, false, false, false, false, false, false, false, false, false, false, false, false, false, false, false, false]) rfl ?_
    refine TR.takeN 8 rfl rfl rfl rfl (by kernel_rfl) (by kernel_rfl) (by kernel_rfl) (l' := #[true, true, true, true, true, true, true, true, true, false, false, false, false, false, false, false, false, false, false, false, false, false, false, false, false, false, false, false, false, false, false]) rfl ?_
    refine TR.takeN 9 rfl rfl rfl rfl (by kernel_rfl) (by kernel_rfl) (by kernel_rfl) (l' := #[true, true, true, true, true, true, true, true, true, true, false, false, false, false, false, false, false, false, false, false, false, false, false, false, false, false, false, false, false, false, false]) rfl ?_
    refine TR.takeN 10 rfl rfl rfl rfl (by kernel_rfl) (by kernel_rfl) (by kernel_rfl) (l' := #[true, true, true, true, true, true, true, true, true, true, true, false, false, false, false, false, false, false, false, false, false, false, false, false, false, false, false, false, false, false, false]) rfl ?_
    refine TR.takeN 11 rfl rfl rfl rfl (by kernel_rfl) (by kernel_rfl) (by kernel_rfl) (l' := #[true, true, true, true, true, true, true, true, true, true, true, true, false, false, false, false, false, false, false, false, false, false, false, false, false, false, false, false, false, false, false]) rfl ?_
    refine TR.takeY 12 rfl rfl rfl rfl (by kernel_rfl) (by kernel_rfl) (by kernel_rfl) (EvP.r (by exact EvP.pickF rfl rfl)) (l' := #[true, true, true, true, true, true, true, true, true, true, true, true, true, false, false, false, false, false, false, false, false, false, false, false, false, false, false, false, false, false, false]) rfl ?_
    refine TR.take 13 rfl (by kernel_rfl) (by kernel_rfl) (by kernel_rfl) (EvP.r (by exact EvP.pickF rfl rfl)) (l' := #[true, true, true, true, true, true, true, true, true, true, true, true, true, true, false, false, false, false, false, false, false, false, false, false, false, false, false, false, false, false, false]) rfl ?_
    refine TR.take 14 rfl (by kernel_rfl) (by kernel_rfl) (by kernel_rfl) (EvP.r (by exact EvP.move rfl)) (l' := #[true, true, true, true, true, true, true, true, true, true, true, true, true, true, true, false, false, false, false, false, false, false, false, false, false, false, false, false, false, false, false]) rfl ?_
    refine TR.takeY 15 rfl rfl rfl rfl (by kernel_rfl) (by kernel_rfl) (by kernel_rfl) (EvP.r (by exact EvP.move rfl)) (l' := #[true, true, true, true, true, true, true, true, true, true, true, true, true, true, true, true, false, false, false, false, false, false, false, false, false, false, false, false, false, false, false]) rfl ?_
    refine TR.takeY 16 rfl rfl rfl rfl (by kernel_rfl) (by kernel_rfl) (by kernel_rfl) (EvP.r (by exact EvP.eq rfl rfl)) (l' := #[true, true, true, true, true, true, true, true, true, true, true, true, true, true, true, true, true, false, false, false, false, false, false, false, false, false, false, false, false, false, false]) rfl ?_
    refine TR.takeY 17 rfl rfl rfl rfl (by kernel_rfl) (by kernel_rfl) (by kernel_rfl) (EvP.r (by exact EvP.move rfl)) (l' := #[true, true, true, true, true, true, true, true, true, true, true, true, true, true, true, true, true, true, false, false, false, false, false, false, false, false, false, false, false, false, false]) rfl ?_
    refine TR.takeN 18 rfl rfl rfl rfl (by kernel_rfl) (by kernel_rfl) (by kernel_rfl) (l' := #[true, true, true, true, true, true, true, true, true, true, true, true, true, true, true, true, true, true, true, false, false, false, false, false, false, false, false, false, false, false, false]) rfl ?_
    refine TR.takeN 19 rfl rfl rfl rfl (by kernel_rfl) (by kernel_rfl) (by kernel_rfl) (l' := #[true, true, true, true, true, true, true, true, true, true, true, true, true, true, true, true, true, true, true, true, false, false, false, false, false, false, false, false, false, false, false]) rfl ?_
    refine TR.takeN 20 rfl rfl rfl rfl (by kernel_rfl) (by kernel_rfl) (by kernel_rfl) (l' := #[true, true, true, true, true, true, true, true, true, true, true, true, true, true, true, true, true, true, true, true, true, false, false, false, false, false, false, false, false, false, false]) rfl ?_
    refine TR.takeN 21 rfl rfl rfl rfl (by kernel_rfl) (by kernel_rfl) (by kernel_rfl) (l' := #[true, true, true, true, true, true, true, true, true, true, true, true, true, true, true, true, true, true, true, true, true, true, false, false, false, false, false, false, false, false, false]) rfl ?_
    refine TR.takeN 22 rfl rfl rfl rfl (by kernel_rfl) (by kernel_rfl) (by kernel_rfl) (l' := #[true, true, true, true, true, true, true, true, true, true, true, true, true, true, true, true, true, true, true, true, true, true, true, false, false, false, false, false, false, false, false]) rfl ?_
    refine TR.takeN 23 rfl rfl rfl rfl (by kernel_rfl) (by kernel_rfl) (by kernel_rfl) (l' := #[true, true, true, true, true, true, true, true, true, true, true, true, true, true, true, true, true, true, true, true, true, true, true, true, false, false, false, false, false, false, false]) rfl ?_
    refine TR.takeN 24 rfl rfl rfl rfl (by kernel_rfl) (by kernel_rfl) (by kernel_rfl) (l' := #[true, true, true, true, true, true, true, true, true, true, true, true, true, true, true, true, true, true, true, true, true, true, true, true, true, false, false, false, false, false, false]) rfl ?_
    refine TR.takeN 25 rfl rfl rfl rfl (by kernel_rfl) (by kernel_rfl) (by kernel_rfl) (l' := #[true, true, true, true, true, true, true, true, true, true, true, true, true, true, true, true, true, true, true, true, true, true, true, true, true, true, false, false, false, false, false]) rfl ?_
    refine TR.takeN 26 rfl rfl rfl rfl (by kernel_rfl) (by kernel_rfl) (by kernel_rfl) (l' := #[true, true, true, true, true, true, true, true, true, true, true, true, true, true, true, true, true, true, true, true, true, true, true, true, true, true, true, false, false, false, false]) rfl ?_
    refine TR.takeN 27 rfl rfl rfl rfl (by kernel_rfl) (by kernel_rfl) (by kernel_rfl) (l' := #[true, true, true, true, true, true, true, true, true, true, true, true, true, true, true, true, true, true, true, true, true, true, true, true, true, true, true, true, false, false, false]) rfl ?_
    refine TR.takeN 28 rfl rfl rfl rfl (by kernel_rfl) (by kernel_rfl) (by kernel_rfl) (l' := #[true, true, true, true, true, true, true, true, true, true, true, true, true, true, true, true, true, true, true, true, true, true, true, true, true, true, true, true, true, false, false]) rfl ?_
    refine TR.takeY 29 rfl rfl rfl rfl (by kernel_rfl) (by kernel_rfl) (by kernel_rfl) (EvP.r (by exact EvP.pickF rfl rfl)) (l' := #[true, true, true, true, true, true, true, true, true, true, true, true, true, true, true, true, true, true, true, true, true, true, true, true, true, true, true, true, true, true, false]) rfl ?_
    refine TR.take 30 rfl (by kernel_rfl) (by kernel_rfl) (by kernel_rfl) (EvP.r (by exact EvP.pickF rfl rfl)) (l' := #[true, true, true, true, true, true, true, true, true, true, true, true, true, true, true, true, true, true, true, true, true, true, true, true, true, true, true, true, true, true, true]) rfl ?_
    refine TR.done (by kernel_rfl) ?_
    refine TX.thenN rfl rfl ?_
    refine TC.cfalse rfl ?_
    refine TC.skip ?_
    refine TX.thenN rfl rfl ?_
    refine TC.seq ?_
    refine TC.seq ?_
    refine TC.region ?_
    refine TL.p (EvP.move rfl) ?_
    refine TL.p (EvP.lenS Try.runUnderlying27 rfl) ?_
    refine TL.p (EvP.move rfl) ?_
    refine TL.nil ?_
    refine TX.thenN rfl rfl ?_
    refine TC.block ?_
    refine TC.loop (ι := Unit) (fun _ => [(84, .int .i64 0), (85, .int .i64 0)]) (fun _ => R) (fun _ => True) (fun _ => 0) (()) (trivial) ⟨rfl, rfl, trivial⟩ (by repeat (first | exact Le.refl _ | exact Le.nil _ | refine Le.hit ?_ | refine Le.hit1 ?_ | refine Le.hit2 ?_ | refine Le.hit3 ?_ | refine Le.hit4 ?_ | refine Le.hit5 ?_ | refine Le.hit6 ?_ | refine Le.hit7 ?_ | refine Le.hit8 ?_ | refine Le.hit9 ?_ | refine Le.hit10 ?_ | refine Le.skip ?_)) ?_
    rintro _ _
    change TC _ _ [(84, .int .i64 0), (85, .int .i64 0)] (R) _
    refine TC.seq ?_
    refine TC.region ?_
    refine TL.p (EvP.lt rfl rfl) ?_
    refine TL.nil ?_
    refine TX.thenN rfl rfl ?_
    refine TC.seq ?_
    refine TC.cfalse rfl ?_
    refine TC.exit ?_
    refine TX.thenE ?_
    refine TX.thenE ?_
    refine TX.blkH ?_
    refine TX.thenN rfl rfl ?_
    refine TC.seq ?_
    refine TC.region ?_
    refine TL.callA rfl rfl Try.call16 (fun w hs => awake_spec hs) ?_
    rintro _ rfl
    refine TL.p (EvP.assign rfl) ?_
    refine TL.nil ?_
    refine TX.thenN rfl rfl ?_
    refine TC.ret ?_
    refine TX.done rfl (Res.one rfl rfl) (fun w hs => Post0.mk hs ?_ (by repeat (first | exact Le.refl _ | exact Le.nil _ | refine Le.hit ?_ | refine Le.hit1 ?_ | refine Le.hit2 ?_ | refine Le.hit3 ?_ | refine Le.hit4 ?_ | refine Le.hit5 ?_ | refine Le.hit6 ?_ | refine Le.hit7 ?_ | refine Le.hit8 ?_ | refine Le.hit9 ?_ | refine Le.hit10 ?_ | refine Le.skip ?_)))
    rfl
end Go.Proofs.Ytnmljhhbabjlcaa
