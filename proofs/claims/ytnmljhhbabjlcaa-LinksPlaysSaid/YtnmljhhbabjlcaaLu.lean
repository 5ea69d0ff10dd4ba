/-
  Walks of both Groups.
-/
import Derived.Test.YtnmljhhbabjlcaaLt
set_option linter.unusedSimpArgs false
set_option linter.unusedVariables false
set_option maxRecDepth 4000
namespace Go.Proofs.Ytnmljhhbabjlcaa
open Go Go.RowKit

theorem fold_snoc {qs acc : List Int} {j : Nat} {q : Int} (hq : qs[j]? = some q) : (qs.take (j + 1)).foldl stepB acc = stepB ((qs.take j).foldl stepB acc) q := by
  rw [take_snoc hq, List.foldl_append]; rfl
theorem mem_snoc {l : List Int} {t : Nat} {y q : Int} (hy : l[t]? = some y) : (q ∈ l.take (t + 1)) = (q ∈ l.take t ∨ q = y) := by
  rw [take_snoc hy, List.mem_append, List.mem_singleton]
theorem met_t1 {l : List Int} {t : Nat} {y q : Int} (hy : l[t]? = some y) (h : true = decide (q ∈ l.take t)) : true = decide (q ∈ l.take (t + 1)) := by
  have h1 : q ∈ l.take t := of_decide_eq_true h.symm
  exact (decide_eq_true (by rw [mem_snoc hy]; exact .inl h1)).symm
theorem met_t2 {l : List Int} {t : Nat} {y q : Int} (hy : l[t]? = some y) (e : y = q) : true = decide (q ∈ l.take (t + 1)) :=
  (decide_eq_true (by rw [mem_snoc hy]; exact .inr e.symm)).symm
theorem met_f {l : List Int} {t : Nat} {y q : Int} (hy : l[t]? = some y) (h : false = decide (q ∈ l.take t)) (e : ¬y = q) : false = decide (q ∈ l.take (t + 1)) := by
  have h1 : q ∉ l.take t := of_decide_eq_false h.symm
  exact (decide_eq_false (by rw [mem_snoc hy]; exact fun hc => hc.elim h1 fun h2 => e h2.symm)).symm
theorem acc_len {L : List Bond} (h : LOk L) {p x : Int} {k j : Nat} (hx : (bit L p k)[k]? = some x) : (((pls L x).take j).foldl stepB (bit L p k)).length ≤ 2 * L.length + 1 := by
  have h1 := bit_len h (p := p) (k + 1)
  rw [bit_next hx] at h1
  have h2 : ((pls L x).take j).foldl stepB (bit L p k) <+: (pls L x).foldl stepB (bit L p k) := by
    have e : (pls L x).foldl stepB (bit L p k) = ((pls L x).drop j).foldl stepB (((pls L x).take j).foldl stepB (bit L p k)) := by
      rw [← List.foldl_append, List.take_append_drop]
    rw [e]; exact fold_pre
  exact Nat.le_trans h2.length_le h1

theorem r_groupN {w0 w : World} {R : List Chunk} {rr : Nat} {Cr D : Chunk} {pid : Int} (hp : okPid pid = false) (hst : St w0 w (Cr :: D :: R)) : Calls Try.prog 47 #[.pointer (some ⟨rr, 0, none⟩), .int .i64 pid] w (Post0 w0 (Cr :: D :: R) fun u => u = .slice none 0 0) := by
  refine calls_of (args := [_, _]) Try.func47 rfl Try.ntmps47 hst ?_
  refine TC.seq ?_
  refine TC.region ?_
  refine TL.p (EvP.assign rfl) ?_
  refine TL.nil ?_
  refine TX.thenN rfl rfl ?_
  refine TC.seq ?_
  refine TC.seq ?_
  refine TC.region ?_
  refine TL.p (EvP.move rfl) ?_
  refine TL.callA rfl rfl Try.call20 (fun w hs => rPid_no hp hs) ?_
  rintro _ rfl
  refine TL.p (EvP.not rfl) ?_
  refine TL.nil ?_
  refine TX.thenN rfl rfl ?_
  refine TC.ctrue rfl ?_
  refine TC.seq ?_
  refine TC.region ?_
  refine TL.p (EvP.assign rfl) ?_
  refine TL.nil ?_
  refine TX.thenN rfl rfl ?_
  refine TC.ret ?_
  refine TX.thenR ?_
  refine TX.done rfl (Res.one rfl rfl) (fun w hs => Post0.mk hs ?_ (by repeat (first | exact Le.refl _ | exact Le.nil _ | refine Le.hit ?_ | refine Le.hit1 ?_ | refine Le.hit2 ?_ | refine Le.hit3 ?_ | refine Le.hit4 ?_ | refine Le.hit5 ?_ | refine Le.hit6 ?_ | refine Le.hit7 ?_ | refine Le.hit8 ?_ | refine Le.hit9 ?_ | refine Le.hit10 ?_ | refine Le.skip ?_)))
  rfl

theorem r_groupY {w0 w : World} {R : List Chunk} {L : List Bond} {rr : Nat} {Cr D : Chunk} (hok : LOk L) (hR : RQ rr L Cr D) {pid : Int} (hp0 : okPid pid = true) (hst : St w0 w (Cr :: D :: R)) : Calls Try.prog 47 #[.pointer (some ⟨rr, 0, none⟩), .int .i64 pid] w (Post1 w0 (Cr :: D :: R) fun u E => SlI u (grp L pid) E) := by
  refine calls_of (args := [_, _]) Try.func47 rfl Try.ntmps47 hst ?_
  refine TC.seq ?_
  refine TC.region ?_
  refine TL.p (EvP.assign rfl) ?_
  refine TL.nil ?_
  refine TX.thenN rfl rfl ?_
  refine TC.seq ?_
  refine TC.seq ?_
  refine TC.region ?_
  refine TL.p (EvP.move rfl) ?_
  refine TL.callA rfl rfl Try.call20 (fun w hs => rPid_yes hp0 hs) ?_
  rintro _ rfl
  refine TL.p (EvP.not rfl) ?_
  refine TL.nil ?_
  refine TX.thenN rfl rfl ?_
  refine TC.cfalse rfl ?_
  refine TC.skip ?_
  refine TX.thenN rfl rfl ?_
  refine TC.seq ?_
  refine TC.region ?_
  refine TL.p (EvP.move rfl) ?_
  refine TL.lit1 (pid) rfl elI Try.underlying50 (by decide) (by decide) encI_ok rfl (fun u0 D0 hD0 => ?_)
  refine TL.p (EvP.assign rfl) ?_
  refine TL.nil ?_
  refine TX.thenN rfl rfl ?_
  refine TC.seq ?_
  refine TC.seq ?_
  refine TC.region ?_
  refine TL.p (EvP.assign rfl) ?_
  refine TL.nil ?_
  refine TX.thenN rfl rfl ?_
  refine TC.block ?_
  refine TC.loop (ι := Nat × Value × Chunk) (fun (k, v, Cb) => [(5, v), (6, .int .i64 k), (0, .pointer (some ⟨rr, 0, none⟩))]) (fun (k, v, Cb) => Cb :: Cr :: D :: R) (fun (k, v, Cb) => k ≤ (bit L pid k).length ∧ k ≤ 2 * L.length + 1 ∧ SlI v (bit L pid k) Cb) (fun (k, v, Cb) => 2 * L.length + 2 - k) ((0, _, _)) (⟨Nat.zero_le _, Nat.zero_le _, hD0⟩) ⟨rfl, rfl, rfl, trivial⟩ (by repeat (first | exact Le.refl _ | exact Le.nil _ | refine Le.hit ?_ | refine Le.hit1 ?_ | refine Le.hit2 ?_ | refine Le.hit3 ?_ | refine Le.hit4 ?_ | refine Le.hit5 ?_ | refine Le.hit6 ?_ | refine Le.hit7 ?_ | refine Le.hit8 ?_ | refine Le.hit9 ?_ | refine Le.hit10 ?_ | refine Le.skip ?_)) ?_
  rintro ⟨k, v, Cb⟩ ⟨hk, hk2, hb⟩
  change TC _ _ [(5, v), (6, .int .i64 k), (0, .pointer (some ⟨rr, 0, none⟩))] (Cb :: Cr :: D :: R) _
  have hbl := bit_len hok (p := pid) k
  have hll := hok.len
  obtain ⟨q1, q2, rfl, _, _⟩ := hb.len
  refine TC.seq ?_
  refine TC.seq ?_
  refine TC.region ?_
  refine TL.p (EvP.move rfl) ?_
  refine TL.p (EvP.move rfl) ?_
  refine TL.p (EvP.lenS Try.runUnderlying50 rfl) ?_
  refine TL.dec (EvP.lt rfl rfl) (fun h20 => ?_) (fun h20 => ?_)
  · refine TL.nil ?_
    refine TX.thenN rfl rfl ?_
    refine TC.ctrue rfl ?_
    refine TC.skip ?_
    refine TX.thenN rfl rfl ?_
    refine TC.seq ?_
    refine TC.block ?_
    refine TC.seq ?_
    refine TC.region ?_
    refine TL.p (EvP.move rfl) ?_
    refine TL.p (EvP.move rfl) ?_
    refine TL.p (EvP.move rfl) ?_
    have hlt : k < (bit L pid k).length := by omega
    obtain ⟨x, hx⟩ : ∃ x, (bit L pid k)[k]? = some x := ⟨_, List.getElem?_eq_getElem hlt⟩
    have hbn := bit_next hx
    have hpl : (pls L x).length ≤ 1024 := by unfold pls peersOf; rw [srt_len, List.length_map]; exact Nat.le_trans (List.length_filter_le _ _) (Nat.le_trans (List.length_filter_le _ _) hll)
    refine TL.elem (hb.el encI_ok (j := k) (x := x) hx (by simp)) Try.runUnderlying50 Try.sizeOf2 rfl rfl (fun bE oE lE _ _ hE hcE => ?_)
    refine TL.r (EvR.load rfl Try.isAgg2 hE hcE.1) ?_
    refine TL.le (Le.hit1 (Le.hit1 (Le.refl _))) ?_
    refine TL.callB rfl rfl Try.call46 (fun w hs => r_peers hok hR x hs) ?_
    rintro _ Cp hp
    obtain ⟨aw, cw, rfl, _, _⟩ := hp.len
    refine TL.p (EvP.lenS Try.runUnderlying50 rfl) ?_
    refine TL.p (EvP.move rfl) ?_
    refine TL.nil ?_
    refine TX.thenN rfl rfl ?_
    refine TC.block ?_
    refine TC.loop (ι := Nat × Value × Chunk) (fun (j, v2, Ca) => [(28, .slice aw (pls L x).length cw), (29, .int .i64 (pls L x).length), (30, .int .i64 j), (5, v2), (6, .int .i64 k), (0, .pointer (some ⟨rr, 0, none⟩))]) (fun (j, v2, Ca) => Ca :: Cp :: Cr :: D :: R) (fun (j, v2, Ca) => j ≤ (pls L x).length ∧ SlI v2 (((pls L x).take j).foldl stepB (bit L pid k)) Ca) (fun (j, v2, Ca) => (pls L x).length - j) ((0, .slice q1 _ q2, Cb)) (⟨Nat.zero_le _, hb⟩) ⟨rfl, rfl, rfl, rfl, rfl, rfl, trivial⟩ (by repeat (first | exact Le.refl _ | exact Le.nil _ | refine Le.hit ?_ | refine Le.hit1 ?_ | refine Le.hit2 ?_ | refine Le.hit3 ?_ | refine Le.hit4 ?_ | refine Le.hit5 ?_ | refine Le.hit6 ?_ | refine Le.hit7 ?_ | refine Le.hit8 ?_ | refine Le.hit9 ?_ | refine Le.hit10 ?_ | refine Le.skip ?_)) ?_
    rintro ⟨j, v2, Ca⟩ ⟨hj, ha⟩
    change TC _ _ [(28, .slice aw (pls L x).length cw), (29, .int .i64 (pls L x).length), (30, .int .i64 j), (5, v2), (6, .int .i64 k), (0, .pointer (some ⟨rr, 0, none⟩))] (Ca :: Cp :: Cr :: D :: R) _
    refine TC.seq ?_
    refine TC.region ?_
    refine TL.dec (EvP.lt rfl rfl) (fun h31 => ?_) (fun h31 => ?_)
    · refine TL.nil ?_
      refine TX.thenN rfl rfl ?_
      refine TC.seq ?_
      refine TC.ctrue rfl ?_
      refine TC.skip ?_
      refine TX.thenN rfl rfl ?_
      refine TC.seq ?_
      refine TC.block ?_
      refine TC.seq ?_
      refine TC.region ?_
      have hjl : j < (pls L x).length := by omega
      obtain ⟨q, hq⟩ : ∃ q, (pls L x)[j]? = some q := ⟨_, List.getElem?_eq_getElem hjl⟩
      obtain ⟨q3, q4, rfl, _, _⟩ := ha.len
      have hal := acc_len hok hx (j := j)
      refine TL.elem (hp.el encI_ok (j := j) (x := q) hq (by simp)) Try.runUnderlying50 Try.sizeOf2 rfl rfl (fun bE2 oE2 lE2 _ _ hE2 hcE2 => ?_)
      refine TL.r (EvR.load rfl Try.isAgg2 hE2 hcE2.1) ?_
      refine TL.p (EvP.assign rfl) ?_
      refine TL.nil ?_
      refine TX.thenN rfl rfl ?_
      refine TC.seq ?_
      refine TC.region ?_
      refine TL.p (EvP.assign rfl) ?_
      refine TL.nil ?_
      refine TX.thenN rfl rfl ?_
      refine TC.seq ?_
      refine TC.seq ?_
      refine TC.region ?_
      refine TL.p (EvP.move rfl) ?_
      refine TL.p (EvP.lenS Try.runUnderlying50 rfl) ?_
      refine TL.p (EvP.move rfl) ?_
      refine TL.nil ?_
      refine TX.thenN rfl rfl ?_
      refine TC.block ?_
      refine TC.loop (ι := Nat × Bool) (fun (t, met) => [(34, .slice q3 (((pls L x).take j).foldl stepB (bit L pid k)).length q4), (35, .int .i64 (((pls L x).take j).foldl stepB (bit L pid k)).length), (36, .int .i64 t), (8, .int .i64 q), (9, .bool met), (28, .slice aw (pls L x).length cw), (29, .int .i64 (pls L x).length), (30, .int .i64 j), (5, .slice q3 (((pls L x).take j).foldl stepB (bit L pid k)).length q4), (6, .int .i64 k), (0, .pointer (some ⟨rr, 0, none⟩))]) (fun (t, met) => Ca :: Cp :: Cr :: D :: R) (fun (t, met) => t ≤ (((pls L x).take j).foldl stepB (bit L pid k)).length ∧ met = decide (q ∈ (((pls L x).take j).foldl stepB (bit L pid k)).take t)) (fun (t, met) => (((pls L x).take j).foldl stepB (bit L pid k)).length - t) ((0, false)) (⟨Nat.zero_le _, by simp⟩) ⟨rfl, rfl, rfl, rfl, rfl, rfl, rfl, rfl, rfl, rfl, rfl, trivial⟩ (by repeat (first | exact Le.refl _ | exact Le.nil _ | refine Le.hit ?_ | refine Le.hit1 ?_ | refine Le.hit2 ?_ | refine Le.hit3 ?_ | refine Le.hit4 ?_ | refine Le.hit5 ?_ | refine Le.hit6 ?_ | refine Le.hit7 ?_ | refine Le.hit8 ?_ | refine Le.hit9 ?_ | refine Le.hit10 ?_ | refine Le.skip ?_)) ?_
      rintro ⟨t, met⟩ ⟨ht, hmet⟩
      change TC _ _ [(34, .slice q3 (((pls L x).take j).foldl stepB (bit L pid k)).length q4), (35, .int .i64 (((pls L x).take j).foldl stepB (bit L pid k)).length), (36, .int .i64 t), (8, .int .i64 q), (9, .bool met), (28, .slice aw (pls L x).length cw), (29, .int .i64 (pls L x).length), (30, .int .i64 j), (5, .slice q3 (((pls L x).take j).foldl stepB (bit L pid k)).length q4), (6, .int .i64 k), (0, .pointer (some ⟨rr, 0, none⟩))] (Ca :: Cp :: Cr :: D :: R) _
      refine TC.seq ?_
      refine TC.region ?_
      refine TL.dec (EvP.lt rfl rfl) (fun h37 => ?_) (fun h37 => ?_)
      · refine TL.nil ?_
        refine TX.thenN rfl rfl ?_
        refine TC.seq ?_
        refine TC.ctrue rfl ?_
        refine TC.skip ?_
        refine TX.thenN rfl rfl ?_
        refine TC.seq ?_
        refine TC.block ?_
        refine TC.seq ?_
        refine TC.region ?_
        have htl : t < (((pls L x).take j).foldl stepB (bit L pid k)).length := by omega
        obtain ⟨y, hy⟩ : ∃ y, (((pls L x).take j).foldl stepB (bit L pid k))[t]? = some y := ⟨_, List.getElem?_eq_getElem htl⟩
        refine TL.elem (ha.el encI_ok (j := t) (x := y) hy (by simp)) Try.runUnderlying50 Try.sizeOf2 rfl rfl (fun bE4 oE4 lE4 _ _ hE4 hcE4 => ?_)
        refine TL.r (EvR.load rfl Try.isAgg2 hE4 hcE4.1) ?_
        refine TL.p (EvP.assign rfl) ?_
        refine TL.nil ?_
        refine TX.thenN rfl rfl ?_
        refine TC.region ?_
        refine TL.p (EvP.move rfl) ?_
        refine TL.p (EvP.move rfl) ?_
        refine TL.bsplit 41 rfl (fun h41 => ?_) (fun h41 => ?_)
        · refine TL.gN rfl rfl rfl ?_
          refine TL.gN rfl rfl rfl ?_
          refine TL.gN rfl rfl rfl ?_
          refine TL.p (EvP.pickT rfl rfl) ?_
          refine TL.p (EvP.assign rfl) ?_
          refine TL.nil ?_
          refine TX.blkN ?_
          refine TX.thenN rfl rfl ?_
          refine TC.region ?_
          refine TL.p (EvP.add rfl rfl (by omega)) ?_
          refine TL.p (EvP.move rfl) ?_
          refine TL.nil ?_
          refine TX.back ((t + 1, true)) (⟨by omega, met_t1 hy (by rw [← hmet, h41])⟩) (by simp only; omega) ⟨rfl, rfl, rfl, rfl, rfl, rfl, rfl, rfl, rfl, rfl, rfl, trivial⟩ (by repeat (first | exact Le.refl _ | exact Le.nil _ | refine Le.hit ?_ | refine Le.hit1 ?_ | refine Le.hit2 ?_ | refine Le.hit3 ?_ | refine Le.hit4 ?_ | refine Le.hit5 ?_ | refine Le.hit6 ?_ | refine Le.hit7 ?_ | refine Le.hit8 ?_ | refine Le.hit9 ?_ | refine Le.hit10 ?_ | refine Le.skip ?_))
        · refine TL.gY rfl rfl rfl ?_
          refine TL.p (EvP.move rfl) ?_
          refine TL.gY rfl rfl rfl ?_
          refine TL.p (EvP.move rfl) ?_
          refine TL.gY rfl rfl rfl ?_
          refine TL.dec (EvP.eq rfl rfl) (fun h44 => ?_) (fun h44 => ?_)
          · refine TL.p (EvP.pickF rfl rfl) ?_
            refine TL.p (EvP.assign rfl) ?_
            refine TL.nil ?_
            refine TX.blkN ?_
            refine TX.thenN rfl rfl ?_
            refine TC.region ?_
            refine TL.p (EvP.add rfl rfl (by omega)) ?_
            refine TL.p (EvP.move rfl) ?_
            refine TL.nil ?_
            refine TX.back ((t + 1, true)) (⟨by omega, met_t2 hy h44⟩) (by simp only; omega) ⟨rfl, rfl, rfl, rfl, rfl, rfl, rfl, rfl, rfl, rfl, rfl, trivial⟩ (by repeat (first | exact Le.refl _ | exact Le.nil _ | refine Le.hit ?_ | refine Le.hit1 ?_ | refine Le.hit2 ?_ | refine Le.hit3 ?_ | refine Le.hit4 ?_ | refine Le.hit5 ?_ | refine Le.hit6 ?_ | refine Le.hit7 ?_ | refine Le.hit8 ?_ | refine Le.hit9 ?_ | refine Le.hit10 ?_ | refine Le.skip ?_))
          · refine TL.p (EvP.pickF rfl rfl) ?_
            refine TL.p (EvP.assign rfl) ?_
            refine TL.nil ?_
            refine TX.blkN ?_
            refine TX.thenN rfl rfl ?_
            refine TC.region ?_
            refine TL.p (EvP.add rfl rfl (by omega)) ?_
            refine TL.p (EvP.move rfl) ?_
            refine TL.nil ?_
            refine TX.back ((t + 1, false)) (⟨by omega, met_f hy (by rw [← hmet, h41]) h44⟩) (by simp only; omega) ⟨rfl, rfl, rfl, rfl, rfl, rfl, rfl, rfl, rfl, rfl, rfl, trivial⟩ (by repeat (first | exact Le.refl _ | exact Le.nil _ | refine Le.hit ?_ | refine Le.hit1 ?_ | refine Le.hit2 ?_ | refine Le.hit3 ?_ | refine Le.hit4 ?_ | refine Le.hit5 ?_ | refine Le.hit6 ?_ | refine Le.hit7 ?_ | refine Le.hit8 ?_ | refine Le.hit9 ?_ | refine Le.hit10 ?_ | refine Le.skip ?_))
      · refine TL.nil ?_
        refine TX.thenN rfl rfl ?_
        refine TC.seq ?_
        refine TC.cfalse rfl ?_
        refine TC.exit ?_
        refine TX.thenE ?_
        refine TX.thenE ?_
        refine TX.blkH ?_
        refine TX.thenN rfl rfl ?_
        refine TC.seq ?_
        refine TC.region ?_
        have ht2 : t = (((pls L x).take j).foldl stepB (bit L pid k)).length := by omega
        rw [ht2, List.take_length] at hmet
        refine TL.p (EvP.move rfl) ?_
        refine TL.bsplit 47 rfl (fun h47 => ?_) (fun h47 => ?_)
        · rw [h47] at hmet
          replace hmet := hmet.symm
          refine TL.p (EvP.not rfl) ?_
          refine TL.nil ?_
          refine TX.thenN rfl rfl ?_
          refine TC.cfalse rfl ?_
          refine TC.skip ?_
          refine TX.blkN ?_
          refine TX.thenN rfl rfl ?_
          refine TC.region ?_
          refine TL.p (EvP.add rfl rfl (by omega)) ?_
          refine TL.p (EvP.move rfl) ?_
          refine TL.nil ?_
          refine TX.back ((j + 1, .slice q3 _ q4, Ca)) (⟨by omega, by rw [fold_snoc hq, stepB, if_pos (by simpa using hmet)]; exact ha⟩) (by simp only; omega) ⟨rfl, rfl, rfl, rfl, rfl, rfl, trivial⟩ (by repeat (first | exact Le.refl _ | exact Le.nil _ | refine Le.hit ?_ | refine Le.hit1 ?_ | refine Le.hit2 ?_ | refine Le.hit3 ?_ | refine Le.hit4 ?_ | refine Le.hit5 ?_ | refine Le.hit6 ?_ | refine Le.hit7 ?_ | refine Le.hit8 ?_ | refine Le.hit9 ?_ | refine Le.hit10 ?_ | refine Le.skip ?_))
        · rw [h47] at hmet
          replace hmet := hmet.symm
          refine TL.p (EvP.not rfl) ?_
          refine TL.nil ?_
          refine TX.thenN rfl rfl ?_
          refine TC.ctrue rfl ?_
          refine TC.region ?_
          refine TL.p (EvP.move rfl) ?_
          refine TL.p (EvP.move rfl) ?_
          refine TL.lit1 (q) rfl elI Try.underlying50 (by decide) (by decide) encI_ok rfl (fun u1 D2 hD2 => ?_)
          refine TL.le (Le.hit1 (Le.refl _)) ?_
          refine TL.append rfl rfl elI Try.underlying50 encI_ok ha (SrcR.sl Try.underlying50 encI_ok hD2 (by simp)) (by simp only [List.length_singleton]; omega) (by decide) (fun v3 C4 hC4 => ?_)
          refine TL.p (EvP.assign rfl) ?_
          refine TL.nil ?_
          refine TX.blkN ?_
          refine TX.thenN rfl rfl ?_
          refine TC.region ?_
          refine TL.p (EvP.add rfl rfl (by omega)) ?_
          refine TL.p (EvP.move rfl) ?_
          refine TL.nil ?_
          refine TX.back ((j + 1, v3, C4)) (⟨by omega, by rw [fold_snoc hq, stepB, if_neg (by simpa using hmet)]; exact hC4⟩) (by simp only; omega) ⟨rfl, rfl, rfl, rfl, rfl, rfl, trivial⟩ (by repeat (first | exact Le.refl _ | exact Le.nil _ | refine Le.hit ?_ | refine Le.hit1 ?_ | refine Le.hit2 ?_ | refine Le.hit3 ?_ | refine Le.hit4 ?_ | refine Le.hit5 ?_ | refine Le.hit6 ?_ | refine Le.hit7 ?_ | refine Le.hit8 ?_ | refine Le.hit9 ?_ | refine Le.hit10 ?_ | refine Le.skip ?_))
    · refine TL.nil ?_
      refine TX.thenN rfl rfl ?_
      refine TC.seq ?_
      refine TC.cfalse rfl ?_
      refine TC.exit ?_
      refine TX.thenE ?_
      refine TX.thenE ?_
      refine TX.blkH ?_
      refine TX.blkN ?_
      refine TX.thenN rfl rfl ?_
      refine TC.region ?_
      have hj3 : j = (pls L x).length := by omega
      subst hj3
      rw [List.take_length] at ha
      have hln : k + 1 ≤ ((pls L x).foldl stepB (bit L pid k)).length := Nat.le_trans hlt fold_pre.length_le
      refine TL.p (EvP.move rfl) ?_
      refine TL.p (EvP.add rfl rfl (by omega)) ?_
      refine TL.p (EvP.assign rfl) ?_
      refine TL.nil ?_
      refine TX.back ((k + 1, v2, Ca)) (⟨by rw [hbn]; exact hln, by omega, by rw [hbn]; exact ha⟩) (by simp only; omega) ⟨rfl, rfl, rfl, trivial⟩ (by repeat (first | exact Le.refl _ | exact Le.nil _ | refine Le.hit ?_ | refine Le.hit1 ?_ | refine Le.hit2 ?_ | refine Le.hit3 ?_ | refine Le.hit4 ?_ | refine Le.hit5 ?_ | refine Le.hit6 ?_ | refine Le.hit7 ?_ | refine Le.hit8 ?_ | refine Le.hit9 ?_ | refine Le.hit10 ?_ | refine Le.skip ?_))
  · refine TL.nil ?_
    refine TX.thenN rfl rfl ?_
    refine TC.cfalse rfl ?_
    refine TC.exit ?_
    refine TX.thenE ?_
    refine TX.thenE ?_
    refine TX.blkH ?_
    refine TX.thenN rfl rfl ?_
    refine TC.seq ?_
    refine TC.region ?_
    refine TL.p (EvP.move rfl) ?_
    have hke : (bit L pid k).length ≤ k := by omega
    refine TL.callB rfl rfl Try.call58 (fun w hs => set_spec hb (bit_nodup k) (by omega) hs) ?_
    rintro v9 E9 h9
    refine TL.p (EvP.assign rfl) ?_
    refine TL.nil ?_
    refine TX.thenN rfl rfl ?_
    refine TC.ret ?_
    rw [← grp_end hok hp0 hke hk2] at h9
    refine TX.done rfl (Res.one rfl rfl) (fun w hs => Post1.mk (C := E9) hs h9 (by repeat (first | exact Le.refl _ | exact Le.nil _ | refine Le.hit ?_ | refine Le.hit1 ?_ | refine Le.hit2 ?_ | refine Le.hit3 ?_ | refine Le.hit4 ?_ | refine Le.hit5 ?_ | refine Le.hit6 ?_ | refine Le.hit7 ?_ | refine Le.hit8 ?_ | refine Le.hit9 ?_ | refine Le.hit10 ?_ | refine Le.skip ?_)))
end Go.Proofs.Ytnmljhhbabjlcaa
