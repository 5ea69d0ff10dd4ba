/-
  Walks of both Peers, of the document's Linked, and of the comparison of numbers.
-/
import Derived.Test.YtdbpandamnkpdaaDoorLs
set_option linter.unusedSimpArgs false
set_option linter.unusedVariables false
set_option maxRecDepth 4000
namespace Go.Proofs.YtdbpandamnkpdaaDoor
open Go Go.RowKit

/-- What is known of a process's bond. -/
theorem of_facts {L : List Bond} (h : LOk L) {p : Int} {x : Bond} (hx : x ∈ ofL L p) : (1 ≤ x.f ∧ x.f ≤ 1099511627776) ∧ (1 ≤ x.t ∧ x.t ≤ 1099511627776) ∧ x.f + x.t - p = other p x ∧ 0 ≤ x.r ∧ (x.f = p ∨ x.t = p) := by
  unfold ofL at hx
  rw [List.mem_filter] at hx
  have h1 := h.ok x hx.1
  have hp : x.f = p ∨ x.t = p := by simpa [ofP] using hx.2
  refine ⟨of_decide_eq_true h1.1, of_decide_eq_true h1.2.1, ?_, h1.2.2.1, hp⟩
  unfold other
  split <;> omega
theorem pos_has {L : List Bond} {b : Bond} : (0 ≤ pos (fun x => decide (x = b)) L) ↔ b ∈ L := by
  rcases pos_pair (L := L) (b := b) with ⟨h1, h2⟩ | ⟨k, h1, h2, h3, _⟩
  · rw [h1]; simp [h2]
  · rw [h1]; simp [h3]

theorem r_peers {w0 w : World} {R : List Chunk} {L : List Bond} {rr : Nat} {Cr D : Chunk} (hok : LOk L) (hR : RQ rr L Cr D) (pid : Int) (hst : St w0 w (Cr :: D :: R)) : Calls Tryd.prog 45 #[.pointer (some ⟨rr, 0, none⟩), .int .i64 pid] w (Post1 w0 (Cr :: D :: R) fun u E => SlI u (pls L pid) E) := by
  refine calls_of (args := [_, _]) Tryd.func45 rfl Tryd.ntmps45 hst ?_
  refine TC.seq ?_
  refine TC.region ?_
  refine TL.p (EvP.assign rfl) ?_
  refine TL.nil ?_
  refine TX.thenN rfl rfl ?_
  refine TC.seq ?_
  refine TC.region ?_
  refine TL.p (EvP.assign rfl) ?_
  refine TL.nil ?_
  refine TX.thenN rfl rfl ?_
  refine TC.seq ?_
  refine TC.seq ?_
  refine TC.region ?_
  refine TL.p (EvP.move rfl) ?_
  refine TL.p (EvP.move rfl) ?_
  refine TL.callB rfl rfl Tryd.call65 (fun w hs => r_of hR hok.len pid hs) ?_
  rintro _ CW hw
  obtain ⟨aw, cw, rfl, _, _⟩ := hw.len
  have hol : (ofL L pid).length ≤ 1024 := Nat.le_trans (List.length_filter_le _ _) hok.len
  refine TL.le Le.nilC ?_
  refine TL.p (EvP.lenS Tryd.runUnderlying71 rfl) ?_
  refine TL.p (EvP.move rfl) ?_
  refine TL.nil ?_
  refine TX.thenN rfl rfl ?_
  refine TC.block ?_
  refine TC.loop (ι := Nat × Value × Chunk) (fun (i, u, Cu) => [(10, .slice aw (ofL L pid).length cw), (11, .int .i64 (ofL L pid).length), (12, .int .i64 i), (1, .int .i64 pid), (5, u)]) (fun (i, u, Cu) => Cu :: CW :: Cr :: D :: R) (fun (i, u, Cu) => i ≤ (ofL L pid).length ∧ SlI u ((((ofL L pid).take i).filter isL).map (other pid)) Cu) (fun (i, u, Cu) => (ofL L pid).length - i) ((0, .slice none 0 0, [])) (⟨Nat.zero_le _, Sl.nil⟩) ⟨rfl, rfl, rfl, rfl, rfl, trivial⟩ (by repeat (first | exact Le.refl _ | exact Le.nil _ | refine Le.hit ?_ | refine Le.hit1 ?_ | refine Le.hit2 ?_ | refine Le.hit3 ?_ | refine Le.hit4 ?_ | refine Le.hit5 ?_ | refine Le.hit6 ?_ | refine Le.hit7 ?_ | refine Le.hit8 ?_ | refine Le.hit9 ?_ | refine Le.hit10 ?_ | refine Le.skip ?_)) ?_
  rintro ⟨i, u, Cu⟩ ⟨hi, hu⟩
  change TC _ _ [(10, .slice aw (ofL L pid).length cw), (11, .int .i64 (ofL L pid).length), (12, .int .i64 i), (1, .int .i64 pid), (5, u)] (Cu :: CW :: Cr :: D :: R) _
  refine TC.seq ?_
  refine TC.region ?_
  refine TL.dec (EvP.lt rfl rfl) (fun h13 => ?_) (fun h13 => ?_)
  · refine TL.nil ?_
    refine TX.thenN rfl rfl ?_
    refine TC.seq ?_
    refine TC.ctrue rfl ?_
    refine TC.skip ?_
    refine TX.thenN rfl rfl ?_
    refine TC.seq ?_
    refine TC.block ?_
    refine TC.seq ?_
    refine TC.region ?_
    have hlt : i < (ofL L pid).length := by omega
    obtain ⟨x, hx⟩ : ∃ x, (ofL L pid)[i]? = some x := ⟨_, List.getElem?_eq_getElem hlt⟩
    obtain ⟨hp1, hp2, hp3, ho⟩ := of_facts hok (List.mem_of_getElem? hx)
    refine TL.elem (hw.el encB_ok hx (by simp)) Tryd.runUnderlying71 Tryd.sizeOf78 rfl rfl (fun bE oE lE _ _ hE hcE => ?_)
    refine TL.r (EvR.loadN (vs := [_, _, _]) rfl Tryd.isAgg78 Tryd.sizeOf78 hE hcE) ?_
    refine TL.alloc Tryd.zeroValue78 rfl (fun b7 => ?_)
    refine TL.u (EvU.store rfl rfl Tryd.sizeOf78 rfl rfl rfl rfl (by repeat (first | exact Has.hd | refine Has.tlb ?_ | refine Has.tlc ?_)) (by repeat (first | exact SetLs.nil | exact SetL.here | apply SetLs.cons | apply SetL.there)) (by repeat (first | exact Upd.hd | apply Upd.tlb | apply Upd.tlc))) ?_
    refine TL.nil ?_
    refine TX.thenN rfl rfl ?_
    refine TC.seq ?_
    refine TC.region ?_
    refine TL.p (EvP.fa (e := 2) rfl Tryd.runUnderlying78 rfl Tryd.sizeOf2 rfl) ?_
    refine TL.r (EvR.load rfl Tryd.isAgg2 (AtB.own (by repeat (first | exact Has.hd | refine Has.tlb ?_ | refine Has.tlc ?_))) (by rfl)) ?_
    refine TL.dec (EvP.eq rfl rfl) (fun h18 => ?_) (fun h18 => ?_)
    · refine TL.nil ?_
      refine TX.thenN rfl rfl ?_
      refine TC.ctrue rfl ?_
      refine TC.region ?_
      refine TL.p (EvP.move rfl) ?_
      refine TL.p (EvP.fa (e := 0) rfl Tryd.runUnderlying78 rfl Tryd.sizeOf2 rfl) ?_
      refine TL.r (EvR.load rfl Tryd.isAgg2 (AtB.own (by repeat (first | exact Has.hd | refine Has.tlb ?_ | refine Has.tlc ?_))) (by rfl)) ?_
      refine TL.p (EvP.fa (e := 1) rfl Tryd.runUnderlying78 rfl Tryd.sizeOf2 rfl) ?_
      refine TL.r (EvR.load rfl Tryd.isAgg2 (AtB.own (by repeat (first | exact Has.hd | refine Has.tlb ?_ | refine Has.tlc ?_))) (by rfl)) ?_
      refine TL.p (EvP.add rfl rfl (by omega)) ?_
      refine TL.p (EvP.move rfl) ?_
      refine TL.p (EvP.isV (u := .int .i64 (other pid x)) (EvP.sub rfl rfl (by omega)) (by rw [hp3])) ?_
      refine TL.lit1 (other pid x) rfl elI Tryd.underlying35 (by decide) (by decide) encI_ok rfl (fun u1 D2 hD2 => ?_)
      refine TL.le (Le.hit2 (Le.refl _)) ?_
      refine TL.append rfl rfl elI Tryd.underlying35 encI_ok hu (SrcR.sl Tryd.underlying35 encI_ok hD2 (by simp)) (by have h2 := List.length_filter_le isL ((ofL L pid).take i); rw [List.length_map]; rw [List.length_take] at h2; simp only [List.length_singleton]; omega) (by decide) (fun v3 C4 hC4 => ?_)
      refine TL.p (EvP.assign rfl) ?_
      refine TL.nil ?_
      refine TX.blkN ?_
      refine TX.thenN rfl rfl ?_
      refine TC.region ?_
      refine TL.p (EvP.add rfl rfl (by omega)) ?_
      refine TL.p (EvP.move rfl) ?_
      refine TL.nil ?_
      refine TX.back ((i + 1, v3, C4)) (⟨by omega, by rw [filter_yes hx (by simp [isL, h18]), List.map_append]; exact hC4⟩) (by simp only; omega) ⟨rfl, rfl, rfl, rfl, rfl, trivial⟩ (by repeat (first | exact Le.refl _ | exact Le.nil _ | refine Le.hit ?_ | refine Le.hit1 ?_ | refine Le.hit2 ?_ | refine Le.hit3 ?_ | refine Le.hit4 ?_ | refine Le.hit5 ?_ | refine Le.hit6 ?_ | refine Le.hit7 ?_ | refine Le.hit8 ?_ | refine Le.hit9 ?_ | refine Le.hit10 ?_ | refine Le.skip ?_))
    · refine TL.nil ?_
      refine TX.thenN rfl rfl ?_
      refine TC.cfalse rfl ?_
      refine TC.skip ?_
      refine TX.blkN ?_
      refine TX.thenN rfl rfl ?_
      refine TC.region ?_
      refine TL.p (EvP.add rfl rfl (by omega)) ?_
      refine TL.p (EvP.move rfl) ?_
      refine TL.nil ?_
      refine TX.back ((i + 1, u, Cu)) (⟨by omega, by rw [filter_no hx (by simp [isL, h18])]; exact hu⟩) (by simp only; omega) ⟨rfl, rfl, rfl, rfl, rfl, trivial⟩ (by repeat (first | exact Le.refl _ | exact Le.nil _ | refine Le.hit ?_ | refine Le.hit1 ?_ | refine Le.hit2 ?_ | refine Le.hit3 ?_ | refine Le.hit4 ?_ | refine Le.hit5 ?_ | refine Le.hit6 ?_ | refine Le.hit7 ?_ | refine Le.hit8 ?_ | refine Le.hit9 ?_ | refine Le.hit10 ?_ | refine Le.skip ?_))
  · refine TL.nil ?_
    refine TX.thenN rfl rfl ?_
    refine TC.seq ?_
    refine TC.cfalse rfl ?_
    refine TC.exit ?_
    refine TX.thenE ?_
    refine TX.thenE ?_
    refine TX.blkH ?_
    refine TX.thenN rfl rfl ?_
    refine TC.seq ?_
    refine TC.region ?_
    refine TL.p (EvP.move rfl) ?_
    have hi3 : i = (ofL L pid).length := by omega
    subst hi3
    rw [List.take_length] at hu
    refine TL.callB rfl rfl Tryd.call66 (fun w hs => set_spec hu (peers_nodup hok pid) (by have h2 := List.length_filter_le isL (ofL L pid); rw [List.length_map]; omega) hs) ?_
    rintro v9 E9 h9
    refine TL.p (EvP.assign rfl) ?_
    refine TL.nil ?_
    refine TX.thenN rfl rfl ?_
    refine TC.ret ?_
    refine TX.done rfl (Res.one rfl rfl) (fun w hs => Post1.mk (C := E9) hs h9 (by repeat (first | exact Le.refl _ | exact Le.nil _ | refine Le.hit ?_ | refine Le.hit1 ?_ | refine Le.hit2 ?_ | refine Le.hit3 ?_ | refine Le.hit4 ?_ | refine Le.hit5 ?_ | refine Le.hit6 ?_ | refine Le.hit7 ?_ | refine Le.hit8 ?_ | refine Le.hit9 ?_ | refine Le.hit10 ?_ | refine Le.skip ?_)))

end Go.Proofs.YtdbpandamnkpdaaDoor
