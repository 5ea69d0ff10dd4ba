/-
  Walks of both Peers, of the document's Linked, and of the comparison of numbers.
-/
import Derived.Test.YtnmljhhbabjlcaaLs
set_option linter.unusedSimpArgs false
set_option linter.unusedVariables false
set_option maxRecDepth 4000
namespace Go.Proofs.Ytnmljhhbabjlcaa
open Go Go.RowKit

/-- What is known of a process's bond. -/
theorem of_facts {L : List Bond} (h : LOk L) {p : Int} {x : Bond} (hx : x ∈ ofL L p) : (1 ≤ x.f ∧ x.f ≤ 1099511627776) ∧ (1 ≤ x.t ∧ x.t ≤ 1099511627776) ∧ x.f + x.t - p = other p x ∧ 0 ≤ x.r ∧ (x.f = p ∨ x.t = p) := by
  unfold ofL at hx
  rw [List.mem_filter] at hx
  have h1 := h.ok x hx.1
  have hp : x.f = p ∨ x.t = p := by simpa [ofP] using hx.2
  refine ⟨of_decide_eq_true h1.1, of_decide_eq_true h1.2.1, ?_, h1.2.2.1, hp⟩
  unfold other
  split <;> omega
theorem pos_has {L : List Bond} {b : Bond} : (0 ≤ pos (fun x => decide (x = b)) L) ↔ b ∈ L := by
  rcases pos_pair (L := L) (b := b) with ⟨h1, h2⟩ | ⟨k, h1, h2, h3, _⟩
  · rw [h1]; simp [h2]
  · rw [h1]; simp [h3]

theorem r_peers {w0 w : World} {R : List Chunk} {L : List Bond} {rr : Nat} {Cr D : Chunk} (hok : LOk L) (hR : RQ rr L Cr D) (pid : Int) (hst : St w0 w (Cr :: D :: R)) : Calls Try.prog 46 #[.pointer (some ⟨rr, 0, none⟩), .int .i64 pid] w (Post1 w0 (Cr :: D :: R) fun u E => SlI u (pls L pid) E) := by
  refine calls_of (args := [_, _]) Try.func46 rfl Try.ntmps46 hst ?_
  refine TC.seq ?_
  refine TC.region ?_
  refine TL.p (EvP.assign rfl) ?_
  refine TL.nil ?_
  refine TX.thenN rfl rfl ?_
  refine TC.seq ?_
  refine TC.region ?_
  refine TL.p (EvP.assign rfl) ?_
  refine TL.nil ?_
  refine TX.thenN rfl rfl ?_
  refine TC.seq ?_
  refine TC.seq ?_
  refine TC.region ?_
  refine TL.p (EvP.move rfl) ?_
  refine TL.p (EvP.move rfl) ?_
  refine TL.callB rfl rfl Try.call18 (fun w hs => r_of hR hok.len pid hs) ?_
  rintro _ CW hw
  obtain ⟨aw, cw, rfl, _, _⟩ := hw.len
  have hol : (ofL L pid).length ≤ 1024 := Nat.le_trans (List.length_filter_le _ _) hok.len
  refine TL.le Le.nilC ?_
  refine TL.p (EvP.lenS Try.runUnderlying27 rfl) ?_
  refine TL.p (EvP.move rfl) ?_
  refine TL.nil ?_
  refine TX.thenN rfl rfl ?_
  refine TC.block ?_
  refine TC.loop (ι := Nat × Value × Chunk) (fun (i, u, Cu) => [(10, .slice aw (ofL L pid).length cw), (11, .int .i64 (ofL L pid).length), (12, .int .i64 i), (1, .int .i64 pid), (5, u)]) (fun (i, u, Cu) => Cu :: CW :: Cr :: D :: R) (fun (i, u, Cu) => i ≤ (ofL L pid).length ∧ SlI u ((((ofL L pid).take i).filter isL).map (other pid)) Cu) (fun (i, u, Cu) => (ofL L pid).length - i) ((0, .slice none 0 0, [])) (⟨Nat.zero_le _, Sl.nil⟩) ⟨rfl, rfl, rfl, rfl, rfl, trivial⟩ (by repeat (first | exact Le.refl _ | exact Le.nil _ | refine Le.hit ?_ | refine Le.hit1 ?_ | refine Le.hit2 ?_ | refine Le.hit3 ?_ | refine Le.hit4 ?_ | refine Le.hit5 ?_ | refine Le.hit6 ?_ | refine Le.hit7 ?_ | refine Le.hit8 ?_ | refine Le.hit9 ?_ | refine Le.hit10 ?_ | refine Le.skip ?_)) ?_
  rintro ⟨i, u, Cu⟩ ⟨hi, hu⟩
  change TC _ _ [(10, .slice aw (ofL L pid).length cw), (11, .int .i64 (ofL L pid).length), (12, .int .i64 i), (1, .int .i64 pid), (5, u)] (Cu :: CW :: Cr :: D :: R) _
  refine TC.seq ?_
  refine TC.region ?_
  refine TL.dec (EvP.lt rfl rfl) (fun h13 => ?_) (fun h13 => ?_)
  · refine TL.nil ?_
    refine TX.thenN rfl rfl ?_
    refine TC.seq ?_
    refine TC.ctrue rfl ?_
    refine TC.skip ?_
    refine TX.thenN rfl rfl ?_
    refine TC.seq ?_
    refine TC.block ?_
    refine TC.seq ?_
    refine TC.region ?_
    have hlt : i < (ofL L pid).length := by omega
    obtain ⟨x, hx⟩ : ∃ x, (ofL L pid)[i]? = some x := ⟨_, List.getElem?_eq_getElem hlt⟩
    obtain ⟨hp1, hp2, hp3, ho⟩ := of_facts hok (List.mem_of_getElem? hx)
    refine TL.elem (hw.el encB_ok hx (by simp)) Try.runUnderlying27 Try.sizeOf48 rfl rfl (fun bE oE lE _ _ hE hcE => ?_)
    refine TL.r (EvR.loadN (vs := [_, _, _]) rfl Try.isAgg48 Try.sizeOf48 hE hcE) ?_
    refine TL.alloc Try.zeroValue48 rfl (fun b7 => ?_)
    refine TL.u (EvU.store rfl rfl Try.sizeOf48 rfl rfl rfl rfl (by repeat (first | exact Has.hd | refine Has.tlb ?_ | refine Has.tlc ?_)) (by repeat (first | exact SetLs.nil | exact SetL.here | apply SetLs.cons | apply SetL.there)) (by repeat (first | exact Upd.hd | apply Upd.tlb | apply Upd.tlc))) ?_
    refine TL.nil ?_
    refine TX.thenN rfl rfl ?_
    refine TC.seq ?_
    refine TC.region ?_
    refine TL.p (EvP.fa (e := 2) rfl Try.runUnderlying48 rfl Try.sizeOf2 rfl) ?_
    refine TL.r (EvR.load rfl Try.isAgg2 (AtB.own (by repeat (first | exact Has.hd | refine Has.tlb ?_ | refine Has.tlc ?_))) (by rfl)) ?_
    refine TL.dec (EvP.eq rfl rfl) (fun h18 => ?_) (fun h18 => ?_)
    · refine TL.nil ?_
      refine TX.thenN rfl rfl ?_
      refine TC.ctrue rfl ?_
      refine TC.region ?_
      refine TL.p (EvP.move rfl) ?_
      refine TL.p (EvP.fa (e := 0) rfl Try.runUnderlying48 rfl Try.sizeOf2 rfl) ?_
      refine TL.r (EvR.load rfl Try.isAgg2 (AtB.own (by repeat (first | exact Has.hd | refine Has.tlb ?_ | refine Has.tlc ?_))) (by rfl)) ?_
      refine TL.p (EvP.fa (e := 1) rfl Try.runUnderlying48 rfl Try.sizeOf2 rfl) ?_
      refine TL.r (EvR.load rfl Try.isAgg2 (AtB.own (by repeat (first | exact Has.hd | refine Has.tlb ?_ | refine Has.tlc ?_))) (by rfl)) ?_
      refine TL.p (EvP.add rfl rfl (by omega)) ?_
      refine TL.p (EvP.move rfl) ?_
      refine TL.p (EvP.isV (u := .int .i64 (other pid x)) (EvP.sub rfl rfl (by omega)) (by rw [hp3])) ?_
      refine TL.lit1 (other pid x) rfl elI Try.underlying50 (by decide) (by decide) encI_ok rfl (fun u1 D2 hD2 => ?_)
      refine TL.le (Le.hit2 (Le.refl _)) ?_
      refine TL.append rfl rfl elI Try.underlying50 encI_ok hu (SrcR.sl Try.underlying50 encI_ok hD2 (by simp)) (by have h2 := List.length_filter_le isL ((ofL L pid).take i); rw [List.length_map]; rw [List.length_take] at h2; simp only [List.length_singleton]; omega) (by decide) (fun v3 C4 hC4 => ?_)
      refine TL.p (EvP.assign rfl) ?_
      refine TL.nil ?_
      refine TX.blkN ?_
      refine TX.thenN rfl rfl ?_
      refine TC.region ?_
      refine TL.p (EvP.add rfl rfl (by omega)) ?_
      refine TL.p (EvP.move rfl) ?_
      refine TL.nil ?_
      refine TX.back ((i + 1, v3, C4)) (⟨by omega, by rw [filter_yes hx (by simp [isL, h18]), List.map_append]; exact hC4⟩) (by simp only; omega) ⟨rfl, rfl, rfl, rfl, rfl, trivial⟩ (by repeat (first | exact Le.refl _ | exact Le.nil _ | refine Le.hit ?_ | refine Le.hit1 ?_ | refine Le.hit2 ?_ | refine Le.hit3 ?_ | refine Le.hit4 ?_ | refine Le.hit5 ?_ | refine Le.hit6 ?_ | refine Le.hit7 ?_ | refine Le.hit8 ?_ | refine Le.hit9 ?_ | refine Le.hit10 ?_ | refine Le.skip ?_))
    · refine TL.nil ?_
      refine TX.thenN rfl rfl ?_
      refine TC.cfalse rfl ?_
      refine TC.skip ?_
      refine TX.blkN ?_
      refine TX.thenN rfl rfl ?_
      refine TC.region ?_
      refine TL.p (EvP.add rfl rfl (by omega)) ?_
      refine TL.p (EvP.move rfl) ?_
      refine TL.nil ?_
      refine TX.back ((i + 1, u, Cu)) (⟨by omega, by rw [filter_no hx (by simp [isL, h18])]; exact hu⟩) (by simp only; omega) ⟨rfl, rfl, rfl, rfl, rfl, trivial⟩ (by repeat (first | exact Le.refl _ | exact Le.nil _ | refine Le.hit ?_ | refine Le.hit1 ?_ | refine Le.hit2 ?_ | refine Le.hit3 ?_ | refine Le.hit4 ?_ | refine Le.hit5 ?_ | refine Le.hit6 ?_ | refine Le.hit7 ?_ | refine Le.hit8 ?_ | refine Le.hit9 ?_ | refine Le.hit10 ?_ | refine Le.skip ?_))
  · refine TL.nil ?_
    refine TX.thenN rfl rfl ?_
    refine TC.seq ?_
    refine TC.cfalse rfl ?_
    refine TC.exit ?_
    refine TX.thenE ?_
    refine TX.thenE ?_
    refine TX.blkH ?_
    refine TX.thenN rfl rfl ?_
    refine TC.seq ?_
    refine TC.region ?_
    refine TL.p (EvP.move rfl) ?_
    have hi3 : i = (ofL L pid).length := by omega
    subst hi3
    rw [List.take_length] at hu
    refine TL.callB rfl rfl Try.call58 (fun w hs => set_spec hu (peers_nodup hok pid) (by have h2 := List.length_filter_le isL (ofL L pid); rw [List.length_map]; omega) hs) ?_
    rintro v9 E9 h9
    refine TL.p (EvP.assign rfl) ?_
    refine TL.nil ?_
    refine TX.thenN rfl rfl ?_
    refine TC.ret ?_
    refine TX.done rfl (Res.one rfl rfl) (fun w hs => Post1.mk (C := E9) hs h9 (by repeat (first | exact Le.refl _ | exact Le.nil _ | refine Le.hit ?_ | refine Le.hit1 ?_ | refine Le.hit2 ?_ | refine Le.hit3 ?_ | refine Le.hit4 ?_ | refine Le.hit5 ?_ | refine Le.hit6 ?_ | refine Le.hit7 ?_ | refine Le.hit8 ?_ | refine Le.hit9 ?_ | refine Le.hit10 ?_ | refine Le.skip ?_)))

theorem peers_raw {w0 w : World} {R : List Chunk} {g mb ml mr : Nat} {n : Int} {eb : List (Ent Int)} {cb : Nat} {el : List (Ent (Int × Int))} {cl : Nat} {er : List (Ent Int)} {cr : Nat} {S : List (Int × Bond)} (hg : GOk S n eb cb el er) {pid : Int} (hst : St w0 w ([(g, .cells [.map (some mb), .int .i64 n, .map (some ml), .map (some mr)].toArray 65 (0, 0))] :: [(mb, mapObj kI eb cb)] :: [(ml, mapObj kP el cl)] :: [(mr, mapObj kI er cr)] :: R)) : Calls Try.prog 25 #[.pointer (some ⟨g, 0, none⟩), .int .i64 pid] w (Post1 w0 ([(g, .cells [.map (some mb), .int .i64 n, .map (some ml), .map (some mr)].toArray 65 (0, 0))] :: [(mb, mapObj kI eb cb)] :: [(ml, mapObj kP el cl)] :: [(mr, mapObj kI er cr)] :: R) fun u C => SlI u (pls (S.map (·.2)) pid) C) := by
  refine calls_of (args := [_, _]) Try.func25 rfl Try.ntmps25 hst ?_
  refine TC.seq ?_
  refine TC.region ?_
  refine TL.box rfl rfl (fun b3 => ?_)
  refine TL.p (EvP.assign rfl) ?_
  refine TL.nil ?_
  refine TX.thenN rfl rfl ?_
  refine TC.seq ?_
  refine TC.seq ?_
  refine TC.region ?_
  refine TL.p (EvP.move rfl) ?_
  refine TL.p (EvP.eqPtrNil Try.runUnderlying24 rfl rfl) ?_
  refine TL.nil ?_
  refine TX.thenN rfl rfl ?_
  refine TC.cfalse rfl ?_
  refine TC.skip ?_
  refine TX.thenN rfl rfl ?_
  refine TC.seq ?_
  refine TC.region ?_
  refine TL.alloc Try.zeroValue50 rfl (fun b5 => ?_)
  refine TL.nil ?_
  refine TX.thenN rfl rfl ?_
  refine TC.seq ?_
  refine TC.seq ?_
  refine TC.region ?_
  refine TL.p (EvP.move rfl) ?_
  refine TL.r (EvR.load rfl Try.isAgg2 (AtB.own (by repeat (first | exact Has.hd | refine Has.tlb ?_ | refine Has.tlc ?_))) (by rfl)) ?_
  refine TL.callD rfl rfl Try.call43 (fun w hs => Of_spec hs) ?_
  rintro _ _ _ _ ⟨b1, b2, p, rfl, rfl, rfl, rfl⟩
  refine TL.nil ?_
  refine TX.thenN rfl rfl ?_
  refine TC.block ?_
  refine TC.le (H' := [(b1, .cells [.pointer (some ⟨g, 0, none⟩)].toArray 24 (0, 0))] :: [(b2, .cells [.func (.func 55) #[] #[.pointer (some ⟨p, 0, none⟩)]].toArray 83 (0, 0))] :: [(p, .cells [.int .i64 pid].toArray 2 (0, 0))] :: [(g, .cells [.map (some mb), .int .i64 n, .map (some ml), .map (some mr)].toArray 65 (0, 0))] :: [(mb, mapObj kI eb cb)] :: [(ml, mapObj kP el cl)] :: [(mr, mapObj kI er cr)] :: [(b5, .cells [.slice none 0 0].toArray 50 (0, 0))] :: ([] : Chunk) :: [(b3, .cells [.int .i64 pid].toArray 2 (0, 0))] :: R) (Le.trans (Le.hit (Le.hit (Le.hit (Le.hit (Le.hit (Le.hit (Le.hit (Le.hit (Le.nilC))))))))) (by repeat (first | exact Le.refl _ | exact Le.nil _ | refine Le.hit ?_ | refine Le.hit1 ?_ | refine Le.hit2 ?_ | refine Le.hit3 ?_ | refine Le.hit4 ?_ | refine Le.hit5 ?_ | refine Le.hit6 ?_ | refine Le.hit7 ?_ | refine Le.hit8 ?_ | refine Le.hit9 ?_ | refine Le.hit10 ?_ | refine Le.skip ?_))) ?_
  refine TC.rangeF (Hit := [[(b1, .cells [.pointer (some ⟨g, 0, none⟩)].toArray 24 (0, 0))], [(b2, .cells [.func (.func 55) #[] #[.pointer (some ⟨p, 0, none⟩)]].toArray 83 (0, 0))], [(p, .cells [.int .i64 pid].toArray 2 (0, 0))], [(g, .cells [.map (some mb), .int .i64 n, .map (some ml), .map (some mr)].toArray 65 (0, 0))], [(mb, mapObj kI eb cb)], [(ml, mapObj kP el cl)], [(mr, mapObj kI er cr)]]) (R0 := [(b5, .cells [.slice none 0 0].toArray 50 (0, 0))] :: ([] : Chunk) :: [(b3, .cells [.int .i64 pid].toArray 2 (0, 0))] :: R) rfl rfl Try.call59 (iter_of hg) (by intro x hx; obtain ⟨b, _, rfl⟩ := List.mem_map.1 hx; rfl) rfl (Le.refl _)
    (fun i R2 => ∃ u Cu, R2 = ([(b5, .cells [u].toArray 50 (0, 0))] :: Cu :: [(b3, .cells [.int .i64 pid].toArray 2 (0, 0))] :: R) ∧ SlI u (((((S.map (·.2)).filter (ofP pid)).take i).filter isL).map (other pid)) Cu) (fun _ _ => False) ⟨_, _, rfl, Sl.nil⟩ ?_ ?_ ?_
  · rintro l i x _ HL HL2 hx ⟨u, Cu, rfl, hu⟩
    obtain ⟨b, hb, rfl⟩ : ∃ b, ((S.map (·.2)).filter (ofP pid))[i]? = some b ∧ x = [b.v] := by rw [List.getElem?_map, Option.map_eq_some_iff] at hx; obtain ⟨b, h1, h2⟩ := hx; exact ⟨b, h1, h2.symm⟩
    have hlt := (List.getElem?_eq_some_iff.1 hb).1
    obtain ⟨hp1, hp2, hp3, ho⟩ := of_facts hg.ok (p := pid) (List.mem_of_getElem? hb)
    have hsm : ((S.map (·.2)).filter (ofP pid)).length ≤ 1024 := Nat.le_trans (List.length_filter_le _ _) hg.ok.len
    refine TC.region ?_
    refine TL.alloc Try.zeroValue48 rfl (fun b6 => ?_)
    refine TL.u (EvU.store rfl rfl Try.sizeOf48 rfl rfl rfl rfl (by repeat (first | exact Has.hd | refine Has.tlb ?_ | refine Has.tlc ?_)) (by repeat (first | exact SetLs.nil | exact SetL.here | apply SetLs.cons | apply SetL.there)) (by repeat (first | exact Upd.hd | apply Upd.tlb | apply Upd.tlc))) ?_
    refine TL.nil ?_
    refine TX.begin (R2 := [(b6, .cells b.enc.toArray 48 (0, 0))] :: [(b5, .cells [u].toArray 50 (0, 0))] :: Cu :: [(b3, .cells [.int .i64 pid].toArray 2 (0, 0))] :: R) ?_
    refine TC.block ?_
    refine TC.block ?_
    refine TC.seq ?_
    refine TC.region ?_
    refine TL.p (EvP.fa (e := 2) rfl Try.runUnderlying48 rfl Try.sizeOf2 rfl) ?_
    refine TL.r (EvR.load rfl Try.isAgg2 (AtB.own (by repeat (first | exact Has.hd | refine Has.tlb ?_ | refine Has.tlc ?_))) (by rfl)) ?_
    refine TL.dec (EvP.gt rfl rfl) (fun h21 => ?_) (fun h21 => ?_)
    · refine TL.p (EvP.assign rfl) ?_
      refine TL.nil ?_
      refine TX.thenN rfl rfl ?_
      refine TC.ctrue rfl ?_
      refine TC.skip ?_
      refine TX.blkN ?_
      refine TX.blkN ?_
      refine TX.roundN (R' := [(b5, .cells [u].toArray 50 (0, 0))] :: Cu :: [(b3, .cells [.int .i64 pid].toArray 2 (0, 0))] :: R) ⟨u, Cu, rfl, ?_⟩ (by (try simp only [List.cons_append, List.nil_append]); repeat (first | exact Le.refl _ | exact Le.nil _ | refine Le.hit ?_ | refine Le.hit1 ?_ | refine Le.hit2 ?_ | refine Le.hit3 ?_ | refine Le.hit4 ?_ | refine Le.hit5 ?_ | refine Le.hit6 ?_ | refine Le.hit7 ?_ | refine Le.hit8 ?_ | refine Le.hit9 ?_ | refine Le.hit10 ?_ | refine Le.skip ?_))
      rw [filter_no hb (by simp [isL]; omega)]; exact hu
    · refine TL.p (EvP.assign rfl) ?_
      refine TL.nil ?_
      refine TX.thenN rfl rfl ?_
      refine TC.cfalse rfl ?_
      refine TC.seq ?_
      refine TC.region ?_
      refine TL.p (EvP.fa (e := 0) rfl Try.runUnderlying48 rfl Try.sizeOf2 rfl) ?_
      refine TL.r (EvR.load rfl Try.isAgg2 (AtB.own (by repeat (first | exact Has.hd | refine Has.tlb ?_ | refine Has.tlc ?_))) (by rfl)) ?_
      refine TL.r (EvR.load rfl Try.isAgg2 (AtB.own (by repeat (first | exact Has.hd | refine Has.tlb ?_ | refine Has.tlc ?_))) (by rfl)) ?_
      refine TL.dec (EvP.eq rfl rfl) (fun h26 => ?_) (fun h26 => ?_)
      · refine TL.p (EvP.assign rfl) ?_
        refine TL.nil ?_
        refine TX.thenN rfl rfl ?_
        refine TC.ctrue rfl ?_
        refine TC.region ?_
        refine TL.r (EvR.load rfl Try.isAgg50 (AtB.own (by repeat (first | exact Has.hd | refine Has.tlb ?_ | refine Has.tlc ?_))) (by rfl)) ?_
        refine TL.p (EvP.fa (e := 1) rfl Try.runUnderlying48 rfl Try.sizeOf2 rfl) ?_
        refine TL.r (EvR.load rfl Try.isAgg2 (AtB.own (by repeat (first | exact Has.hd | refine Has.tlb ?_ | refine Has.tlc ?_))) (by rfl)) ?_
        refine TL.lit1 (b.t) rfl elI Try.underlying50 (by decide) (by decide) encI_ok rfl (fun u1 D2 hD2 => ?_)
        refine TL.le (Le.hit3 (Le.refl _)) ?_
        refine TL.append rfl rfl elI Try.underlying50 encI_ok hu (SrcR.sl Try.underlying50 encI_ok hD2 (by simp)) (by have h2 := List.length_filter_le isL (((S.map (·.2)).filter (ofP pid)).take i); rw [List.length_map]; rw [List.length_take] at h2; simp only [List.length_singleton]; omega) (by decide) (fun v3 C4 hC4 => ?_)
        refine TL.u (EvU.store1 rfl rfl Try.sizeOf50 (by first | rfl | (apply Sl.one; assumption)) (by repeat (first | exact Has.hd | refine Has.tlb ?_ | refine Has.tlc ?_)) (by repeat (first | exact SetL.here | apply SetL.there)) (by repeat (first | exact Upd.hd | apply Upd.tlb | apply Upd.tlc))) ?_
        refine TL.nil ?_
        refine TX.blkN ?_
        refine TX.blkN ?_
        refine TX.roundN (R' := [(b5, .cells [v3].toArray 50 (0, 0))] :: C4 :: [(b3, .cells [.int .i64 pid].toArray 2 (0, 0))] :: R) ⟨_, _, rfl, ?_⟩ (by (try simp only [List.cons_append, List.nil_append]); repeat (first | exact Le.refl _ | exact Le.nil _ | refine Le.hit ?_ | refine Le.hit1 ?_ | refine Le.hit2 ?_ | refine Le.hit3 ?_ | refine Le.hit4 ?_ | refine Le.hit5 ?_ | refine Le.hit6 ?_ | refine Le.hit7 ?_ | refine Le.hit8 ?_ | refine Le.hit9 ?_ | refine Le.hit10 ?_ | refine Le.skip ?_))
        rw [filter_yes hb (by simp [isL]; omega), List.map_append, List.map_singleton]
        rw [show other pid b = b.t from by unfold other; simp_all]; exact hC4
      · refine TL.p (EvP.assign rfl) ?_
        refine TL.nil ?_
        refine TX.thenN rfl rfl ?_
        refine TC.cfalse rfl ?_
        refine TC.region ?_
        refine TL.r (EvR.load rfl Try.isAgg50 (AtB.own (by repeat (first | exact Has.hd | refine Has.tlb ?_ | refine Has.tlc ?_))) (by rfl)) ?_
        refine TL.p (EvP.fa (e := 0) rfl Try.runUnderlying48 rfl Try.sizeOf2 rfl) ?_
        refine TL.r (EvR.load rfl Try.isAgg2 (AtB.own (by repeat (first | exact Has.hd | refine Has.tlb ?_ | refine Has.tlc ?_))) (by rfl)) ?_
        refine TL.lit1 (b.f) rfl elI Try.underlying50 (by decide) (by decide) encI_ok rfl (fun u5 D6 hD6 => ?_)
        refine TL.le (Le.hit3 (Le.refl _)) ?_
        refine TL.append rfl rfl elI Try.underlying50 encI_ok hu (SrcR.sl Try.underlying50 encI_ok hD6 (by simp)) (by have h2 := List.length_filter_le isL (((S.map (·.2)).filter (ofP pid)).take i); rw [List.length_map]; rw [List.length_take] at h2; simp only [List.length_singleton]; omega) (by decide) (fun v7 C8 hC8 => ?_)
        refine TL.u (EvU.store1 rfl rfl Try.sizeOf50 (by first | rfl | (apply Sl.one; assumption)) (by repeat (first | exact Has.hd | refine Has.tlb ?_ | refine Has.tlc ?_)) (by repeat (first | exact SetL.here | apply SetL.there)) (by repeat (first | exact Upd.hd | apply Upd.tlb | apply Upd.tlc))) ?_
        refine TL.nil ?_
        refine TX.blkN ?_
        refine TX.blkN ?_
        refine TX.roundN (R' := [(b5, .cells [v7].toArray 50 (0, 0))] :: C8 :: [(b3, .cells [.int .i64 pid].toArray 2 (0, 0))] :: R) ⟨_, _, rfl, ?_⟩ (by (try simp only [List.cons_append, List.nil_append]); repeat (first | exact Le.refl _ | exact Le.nil _ | refine Le.hit ?_ | refine Le.hit1 ?_ | refine Le.hit2 ?_ | refine Le.hit3 ?_ | refine Le.hit4 ?_ | refine Le.hit5 ?_ | refine Le.hit6 ?_ | refine Le.hit7 ?_ | refine Le.hit8 ?_ | refine Le.hit9 ?_ | refine Le.hit10 ?_ | refine Le.skip ?_))
        rw [filter_yes hb (by simp [isL]; omega), List.map_append, List.map_singleton]
        rw [show other pid b = b.f from by unfold other; simp_all]; exact hC8
  · rintro dd _ ⟨u, Cu, rfl, hu⟩
    refine TX.le Le.comm2 ?_
    rw [List.length_map, List.take_length] at hu
    have hsm : ((S.map (·.2)).filter (ofP pid)).length ≤ 1024 := Nat.le_trans (List.length_filter_le _ _) hg.ok.len
    refine TX.blkN ?_
    refine TX.thenN rfl rfl ?_
    refine TC.seq ?_
    refine TC.region ?_
    refine TL.r (EvR.load rfl Try.isAgg50 (AtB.own (by repeat (first | exact Has.hd | refine Has.tlb ?_ | refine Has.tlc ?_))) (by rfl)) ?_
    refine TL.le (Le.hit9 (Le.refl _)) ?_
    refine TL.callB rfl rfl Try.call44 (fun w hs => sort_spec hu hs (by have h2 := List.length_filter_le isL ((S.map (·.2)).filter (ofP pid)); rw [List.length_map]; omega)) ?_
    rintro _ C9 ⟨rfl, h9⟩
    refine TL.nil ?_
    refine TX.thenN rfl rfl ?_
    refine TC.seq ?_
    refine TC.region ?_
    refine TL.r (EvR.load rfl Try.isAgg50 (AtB.own (by repeat (first | exact Has.hd | refine Has.tlb ?_ | refine Has.tlc ?_))) (by rfl)) ?_
    refine TL.p (EvP.assign rfl) ?_
    refine TL.nil ?_
    refine TX.thenN rfl rfl ?_
    refine TC.ret ?_
    refine TX.doneM rfl (by repeat (first | exact Upd.hd | apply Upd.tlb | apply Upd.tlc)) (Res.one rfl rfl) (fun w hs => Post1.mk (C := C9) hs h9 (by (try simp only [List.cons_append, List.nil_append]); repeat (first | exact Le.refl _ | exact Le.nil _ | refine Le.hit ?_ | refine Le.hit1 ?_ | refine Le.hit2 ?_ | refine Le.hit3 ?_ | refine Le.hit4 ?_ | refine Le.hit5 ?_ | refine Le.hit6 ?_ | refine Le.hit7 ?_ | refine Le.hit8 ?_ | refine Le.hit9 ?_ | refine Le.hit10 ?_ | refine Le.skip ?_)))
  · intro _ _ _ h; exact h.elim

theorem rlinked_raw {w0 w : World} {R : List Chunk} {rr : Nat} {a0 : Option Addr} {cap : Nat} {L : List Bond} {D : Chunk} (a b : Int) (hv : Sl 48 3 Bond.enc (.slice a0 L.length cap) L D) (hlen : L.length ≤ 1024) (hst : St w0 w ([(rr, .cells [.slice a0 L.length cap].toArray 29 (0, 0))] :: D :: R)) : Calls Try.prog 48 #[.pointer (some ⟨rr, 0, none⟩), .int .i64 a, .int .i64 b] w (Post0 w0 ([(rr, .cells [.slice a0 L.length cap].toArray 29 (0, 0))] :: D :: R) fun u => u = .bool (lkd L a b)) := by
  refine calls_of (args := [_, _, _]) Try.func48 rfl Try.ntmps48 hst ?_
  refine TC.seq ?_
  refine TC.region ?_
  refine TL.p (EvP.assign rfl) ?_
  refine TL.nil ?_
  refine TX.thenN rfl rfl ?_
  refine TC.seq ?_
  refine TC.region ?_
  refine TL.p (EvP.move rfl) ?_
  refine TL.callA rfl rfl Try.call20 (fun w hs => rPid_spec _ hs) ?_
  rintro _ rfl
  refine TL.p (EvP.move rfl) ?_
  refine TL.bsplit 9 rfl (fun h9 => ?_) (fun h9 => ?_)
  · refine TL.gY rfl rfl rfl ?_
    refine TL.p (EvP.move rfl) ?_
    refine TL.gY rfl rfl rfl ?_
    refine TL.callA rfl rfl Try.call20 (fun w hs => rPid_spec _ hs) ?_
    rintro _ rfl
    refine TL.p (EvP.pickT rfl rfl) ?_
    refine TL.p (EvP.move rfl) ?_
    refine TL.bsplit 13 rfl (fun h13 => ?_) (fun h13 => ?_)
    · refine TL.gY rfl rfl rfl ?_
      refine TL.p (EvP.move rfl) ?_
      refine TL.gY rfl rfl rfl ?_
      refine TL.p (EvP.move rfl) ?_
      refine TL.gY rfl rfl rfl ?_
      refine TL.dec (EvP.ne rfl rfl) (fun h16 => ?_) (fun h16 => ?_)
      · refine TL.p (EvP.pickT rfl rfl) ?_
        refine TL.p (EvP.move rfl) ?_
        refine TL.gY rfl rfl rfl ?_
        refine TL.p (EvP.move rfl) ?_
        refine TL.gY rfl rfl rfl ?_
        refine TL.p (EvP.move rfl) ?_
        refine TL.gY rfl rfl rfl ?_
        refine TL.p (EvP.move rfl) ?_
        refine TL.gY rfl rfl rfl ?_
        refine TL.callA rfl rfl Try.call51 (fun w hs => rpair_spec a b hs) ?_
        rintro _ rfl
        refine TL.gY rfl rfl rfl ?_
        refine TL.callA rfl rfl Try.call50 (fun w hs => rplace_spec (pairB a b) hv hlen hs) ?_
        rintro _ rfl
        refine TL.gY rfl rfl rfl ?_
        refine TL.p (EvP.ge rfl rfl) ?_
        refine TL.p (EvP.pickT rfl rfl) ?_
        refine TL.p (EvP.assign rfl) ?_
        refine TL.nil ?_
        refine TX.thenN rfl rfl ?_
        refine TC.ret ?_
        refine TX.done rfl (Res.one rfl rfl) (fun w hs => Post0.mk hs ?_ (by repeat (first | exact Le.refl _ | exact Le.nil _ | refine Le.hit ?_ | refine Le.hit1 ?_ | refine Le.hit2 ?_ | refine Le.hit3 ?_ | refine Le.hit4 ?_ | refine Le.hit5 ?_ | refine Le.hit6 ?_ | refine Le.hit7 ?_ | refine Le.hit8 ?_ | refine Le.hit9 ?_ | refine Le.hit10 ?_ | refine Le.skip ?_)))
        simp_all [lkd, okTwo, pos_has]
      · refine TL.p (EvP.pickT rfl rfl) ?_
        refine TL.p (EvP.move rfl) ?_
        refine TL.gN rfl rfl rfl ?_
        refine TL.gN rfl rfl rfl ?_
        refine TL.gN rfl rfl rfl ?_
        refine TL.gN rfl rfl rfl ?_
        refine TL.gN rfl rfl rfl ?_
        refine TL.gN rfl rfl rfl ?_
        refine TL.p (EvP.pickF rfl rfl) ?_
        refine TL.p (EvP.assign rfl) ?_
        refine TL.nil ?_
        refine TX.thenN rfl rfl ?_
        refine TC.ret ?_
        refine TX.done rfl (Res.one rfl rfl) (fun w hs => Post0.mk hs ?_ (by repeat (first | exact Le.refl _ | exact Le.nil _ | refine Le.hit ?_ | refine Le.hit1 ?_ | refine Le.hit2 ?_ | refine Le.hit3 ?_ | refine Le.hit4 ?_ | refine Le.hit5 ?_ | refine Le.hit6 ?_ | refine Le.hit7 ?_ | refine Le.hit8 ?_ | refine Le.hit9 ?_ | refine Le.hit10 ?_ | refine Le.skip ?_)))
        simp_all [lkd, okTwo, pos_has]
    · refine TL.gN rfl rfl rfl ?_
      refine TL.gN rfl rfl rfl ?_
      refine TL.gN rfl rfl rfl ?_
      refine TL.p (EvP.pickF rfl rfl) ?_
      refine TL.p (EvP.move rfl) ?_
      refine TL.gN rfl rfl rfl ?_
      refine TL.gN rfl rfl rfl ?_
      refine TL.gN rfl rfl rfl ?_
      refine TL.gN rfl rfl rfl ?_
      refine TL.gN rfl rfl rfl ?_
      refine TL.gN rfl rfl rfl ?_
      refine TL.p (EvP.pickF rfl rfl) ?_
      refine TL.p (EvP.assign rfl) ?_
      refine TL.nil ?_
      refine TX.thenN rfl rfl ?_
      refine TC.ret ?_
      refine TX.done rfl (Res.one rfl rfl) (fun w hs => Post0.mk hs ?_ (by repeat (first | exact Le.refl _ | exact Le.nil _ | refine Le.hit ?_ | refine Le.hit1 ?_ | refine Le.hit2 ?_ | refine Le.hit3 ?_ | refine Le.hit4 ?_ | refine Le.hit5 ?_ | refine Le.hit6 ?_ | refine Le.hit7 ?_ | refine Le.hit8 ?_ | refine Le.hit9 ?_ | refine Le.hit10 ?_ | refine Le.skip ?_)))
      simp_all [lkd, okTwo, pos_has]
  · refine TL.gN rfl rfl rfl ?_
    refine TL.gN rfl rfl rfl ?_
    refine TL.p (EvP.pickF rfl rfl) ?_
    refine TL.p (EvP.move rfl) ?_
    refine TL.gN rfl rfl rfl ?_
    refine TL.gN rfl rfl rfl ?_
    refine TL.gN rfl rfl rfl ?_
    refine TL.p (EvP.pickF rfl rfl) ?_
    refine TL.p (EvP.move rfl) ?_
    refine TL.gN rfl rfl rfl ?_
    refine TL.gN rfl rfl rfl ?_
    refine TL.gN rfl rfl rfl ?_
    refine TL.gN rfl rfl rfl ?_
    refine TL.gN rfl rfl rfl ?_
    refine TL.gN rfl rfl rfl ?_
    refine TL.p (EvP.pickF rfl rfl) ?_
    refine TL.p (EvP.assign rfl) ?_
    refine TL.nil ?_
    refine TX.thenN rfl rfl ?_
    refine TC.ret ?_
    refine TX.done rfl (Res.one rfl rfl) (fun w hs => Post0.mk hs ?_ (by repeat (first | exact Le.refl _ | exact Le.nil _ | refine Le.hit ?_ | refine Le.hit1 ?_ | refine Le.hit2 ?_ | refine Le.hit3 ?_ | refine Le.hit4 ?_ | refine Le.hit5 ?_ | refine Le.hit6 ?_ | refine Le.hit7 ?_ | refine Le.hit8 ?_ | refine Le.hit9 ?_ | refine Le.hit10 ?_ | refine Le.skip ?_)))
    simp_all [lkd, okTwo, pos_has]

theorem pids_spec {w0 w : World} {H : List Chunk} {u v : Value} {xs : List Int} (he1 : Els (fun w => St w0 w H) u 1 (one (Value.int .i64)) 2 xs) (he2 : Els (fun w => St w0 w H) v 1 (one (Value.int .i64)) 2 xs) (hsz : xs.length < 4611686018427387904) (hst : St w0 w H) : Calls Try.prog 24 #[u, v] w (Post0 w0 H fun u => u = .bool true) := by
  obtain ⟨⟨a1, cap1, rfl⟩, h1⟩ := he1
  obtain ⟨⟨a2, cap2, rfl⟩, h2⟩ := he2
  refine calls_of (args := [_, _]) Try.func24 rfl Try.ntmps24 hst ?_
  refine TC.seq ?_
  refine TC.region ?_
  refine TL.p (EvP.assign rfl) ?_
  refine TL.nil ?_
  refine TX.thenN rfl rfl ?_
  refine TC.seq ?_
  refine TC.seq ?_
  refine TC.region ?_
  refine TL.p (EvP.move rfl) ?_
  refine TL.p (EvP.lenS Try.runUnderlying50 rfl) ?_
  refine TL.p (EvP.move rfl) ?_
  refine TL.p (EvP.lenS Try.runUnderlying50 rfl) ?_
  refine TL.p (EvP.isF (EvP.ne rfl rfl) (by simp)) ?_
  refine TL.nil ?_
  refine TX.thenN rfl rfl ?_
  refine TC.cfalse rfl ?_
  refine TC.skip ?_
  refine TX.thenN rfl rfl ?_
  refine TC.seq ?_
  refine TC.seq ?_
  refine TC.region ?_
  refine TL.p (EvP.move rfl) ?_
  refine TL.p (EvP.lenS Try.runUnderlying50 rfl) ?_
  refine TL.p (EvP.move rfl) ?_
  refine TL.nil ?_
  refine TX.thenN rfl rfl ?_
  refine TC.block ?_
  refine TC.loop (ι := Nat) (fun i => [(0, .slice a1 xs.length cap1), (1, .slice a2 xs.length cap2), (12, .int .i64 xs.length), (13, .int .i64 i)]) (fun i => H) (fun i => i ≤ xs.length) (fun i => xs.length - i) (0) (Nat.zero_le _) ⟨rfl, rfl, rfl, rfl, trivial⟩ (by repeat (first | exact Le.refl _ | exact Le.nil _ | refine Le.hit ?_ | refine Le.hit1 ?_ | refine Le.hit2 ?_ | refine Le.hit3 ?_ | refine Le.hit4 ?_ | refine Le.hit5 ?_ | refine Le.hit6 ?_ | refine Le.hit7 ?_ | refine Le.hit8 ?_ | refine Le.hit9 ?_ | refine Le.hit10 ?_ | refine Le.skip ?_)) ?_
  rintro i hi
  change TC _ _ [(0, .slice a1 xs.length cap1), (1, .slice a2 xs.length cap2), (12, .int .i64 xs.length), (13, .int .i64 i)] (H) _
  refine TC.seq ?_
  refine TC.region ?_
  refine TL.dec (EvP.lt rfl rfl) (fun h14 => ?_) (fun h14 => ?_)
  · refine TL.nil ?_
    refine TX.thenN rfl rfl ?_
    refine TC.seq ?_
    refine TC.ctrue rfl ?_
    refine TC.skip ?_
    refine TX.thenN rfl rfl ?_
    refine TC.seq ?_
    refine TC.block ?_
    refine TC.seq ?_
    refine TC.region ?_
    have hlt : i < xs.length := by omega
    obtain ⟨x, hx⟩ : ∃ x, xs[i]? = some x := ⟨_, List.getElem?_eq_getElem hlt⟩
    obtain ⟨c1, o1, n1, k1, l1, _, _, q1, hj1, hb1, hc1⟩ := h1 i x hx
    obtain ⟨c2, o2, n2, k2, l2, _, _, q2, hj2, hb2, hc2⟩ := h2 i x hx
    cases q1
    cases q2
    refine TL.p (EvP.move rfl) ?_
    refine TL.p (EvP.assign rfl) ?_
    refine TL.nil ?_
    refine TX.thenN rfl rfl ?_
    refine TC.seq ?_
    refine TC.drawn (listed := #[false, false, false, false, false, false, false, false, false]) 9 (fun w => St w0 w H) rfl rfl rfl rfl (fun _ hs => hs) ?_
    refine TR.take 0 rfl (by kernel_rfl) (by kernel_rfl) (by kernel_rfl) (EvP.r (by exact EvP.move rfl)) (l' := #[true, false, false, false, false, false, false, false, false]) rfl ?_
    refine TR.take 1 rfl (by kernel_rfl) (by kernel_rfl) (by kernel_rfl) (EvP.r (by exact EvP.move rfl)) (l' := #[true, true, false, false, false, false, false, false, false]) rfl ?_
    refine TR.take 2 rfl (by kernel_rfl) (by kernel_rfl) (by kernel_rfl) (EvP.r (by exact EvP.ix (j := (i : Int)) Try.runUnderlying50 Try.sizeOf2 rfl rfl ⟨by omega, by omega⟩)) (l' := #[true, true, true, false, false, false, false, false, false]) rfl ?_
    refine TR.take 3 rfl (by kernel_rfl) (by kernel_rfl) (by kernel_rfl) (EvR.load rfl Try.isAgg2 hb1 hc1.1) (l' := #[true, true, true, true, false, false, false, false, false]) rfl ?_
    refine TR.take 4 rfl (by kernel_rfl) (by kernel_rfl) (by kernel_rfl) (EvP.r (by exact EvP.move rfl)) (l' := #[true, true, true, true, true, false, false, false, false]) rfl ?_
    refine TR.take 5 rfl (by kernel_rfl) (by kernel_rfl) (by kernel_rfl) (EvP.r (by exact EvP.move rfl)) (l' := #[true, true, true, true, true, true, false, false, false]) rfl ?_
    refine TR.take 6 rfl (by kernel_rfl) (by kernel_rfl) (by kernel_rfl) (EvP.r (by exact EvP.ix (j := (i : Int)) Try.runUnderlying50 Try.sizeOf2 rfl rfl ⟨by omega, by omega⟩)) (l' := #[true, true, true, true, true, true, true, false, false]) rfl ?_
    refine TR.take 7 rfl (by kernel_rfl) (by kernel_rfl) (by kernel_rfl) (EvR.load rfl Try.isAgg2 hb2 hc2.1) (l' := #[true, true, true, true, true, true, true, true, false]) rfl ?_
    refine TR.take 8 rfl (by kernel_rfl) (by kernel_rfl) (by kernel_rfl) (EvP.r (by exact EvP.isF (EvP.ne rfl rfl) (by simp))) (l' := #[true, true, true, true, true, true, true, true, true]) rfl ?_
    refine TR.done (by kernel_rfl) ?_
    refine TX.thenN rfl rfl ?_
    refine TC.cfalse rfl ?_
    refine TC.skip ?_
    refine TX.blkN ?_
    refine TX.thenN rfl rfl ?_
    refine TC.region ?_
    refine TL.p (EvP.add rfl rfl (by omega)) ?_
    refine TL.p (EvP.move rfl) ?_
    refine TL.nil ?_
    refine TX.back (i + 1) (by omega) (by omega) ⟨rfl, rfl, rfl, rfl, trivial⟩ (by repeat (first | exact Le.refl _ | exact Le.nil _ | refine Le.hit ?_ | refine Le.hit1 ?_ | refine Le.hit2 ?_ | refine Le.hit3 ?_ | refine Le.hit4 ?_ | refine Le.hit5 ?_ | refine Le.hit6 ?_ | refine Le.hit7 ?_ | refine Le.hit8 ?_ | refine Le.hit9 ?_ | refine Le.hit10 ?_ | refine Le.skip ?_))
  · refine TL.nil ?_
    refine TX.thenN rfl rfl ?_
    refine TC.seq ?_
    refine TC.cfalse rfl ?_
    refine TC.exit ?_
    refine TX.thenE ?_
    refine TX.thenE ?_
    refine TX.blkH ?_
    refine TX.thenN rfl rfl ?_
    refine TC.seq ?_
    refine TC.region ?_
    refine TL.p (EvP.assign rfl) ?_
    refine TL.nil ?_
    refine TX.thenN rfl rfl ?_
    refine TC.ret ?_
    refine TX.done rfl (Res.one rfl rfl) (fun w hs => Post0.mk hs ?_ (by repeat (first | exact Le.refl _ | exact Le.nil _ | refine Le.hit ?_ | refine Le.hit1 ?_ | refine Le.hit2 ?_ | refine Le.hit3 ?_ | refine Le.hit4 ?_ | refine Le.hit5 ?_ | refine Le.hit6 ?_ | refine Le.hit7 ?_ | refine Le.hit8 ?_ | refine Le.hit9 ?_ | refine Le.hit10 ?_ | refine Le.skip ?_)))
    rfl
end Go.Proofs.Ytnmljhhbabjlcaa
