/-
  The numbers of all bonds in order; the iterators over them.
-/
import Derived.Test.YtdbpandamnkpdaaDoorLc
set_option linter.unusedSimpArgs false
set_option linter.unusedVariables false
namespace Go.Proofs.YtdbpandamnkpdaaDoor
open Go Go.RowKit

theorem encI_ok : Enc 1 (one (Value.int .i64)) := one_enc fun _ => rfl
theorem elI : ElT Tryd.prog 2 1 8 := ElT.of Tryd.typeInfo2 rfl rfl rfl rfl
theorem encB_ok : Enc 3 Bond.enc := fun x => ⟨rfl, by intro u hu; simp only [Bond.enc, List.mem_cons, List.not_mem_nil, or_false] at hu; rcases hu with rfl | rfl | rfl <;> rfl⟩
theorem elB : ElT Tryd.prog 78 3 24 := ElT.of Tryd.typeInfo78 rfl rfl rfl rfl
theorem nodup_snoc {α : Type} {l : List α} {x : α} (h : l.Nodup) (hx : x ∉ l) : (l ++ [x]).Nodup := by
  rw [List.nodup_append]
  exact ⟨h, by simp, fun a ha b hb => by rw [List.mem_singleton.1 hb]; exact fun e => hx (e ▸ ha)⟩
theorem nodup_len {α : Type} {l m : List α} (h : l.Nodup) (hs : ∀ x ∈ l, x ∈ m) : l.length ≤ m.length := h.length_le_of_subset hs
theorem nodup_room {α : Type} {l m : List α} {x : α} (h : l.Nodup) (hs : ∀ x ∈ l, x ∈ m) (hx : x ∈ m) (hn : x ∉ l) : l.length < m.length := by
  have := nodup_len (nodup_snoc h hn) (m := m) (fun y hy => (List.mem_append.1 hy).elim (hs y) fun h' => List.mem_singleton.1 h' ▸ hx)
  rw [List.length_append] at this
  simp only [List.length_singleton] at this
  omega
theorem Le.nilC {H : List Chunk} : Le ([] :: H) H := ⟨[], by simp⟩
theorem GOk.small {S : List (Int × Bond)} {n : Int} {eb : List (Ent Int)} {cb : Nat} {el : List (Ent (Int × Int))} {er : List (Ent Int)} (h : GOk S n eb cb el er) : eb.length ≤ 1024 := by
  have := h.ok.len
  rw [← h.len] at this
  exact this
theorem srt_perm {l m : List Int} (h : l.Perm m) (hm : m.Pairwise fun x y => x < y) : srt l = m := by
  refine List.Perm.eq_of_pairwise (le := fun a b => decide (a ≤ b) = true) (fun a b _ _ h1 h2 => ?_) (List.pairwise_mergeSort (fun a b c h1 h2 => ?_) (fun a b => ?_) l) (hm.imp fun h => ?_) ((List.mergeSort_perm l _).trans h)
  · simp only [decide_eq_true_eq] at h1 h2; omega
  · simp only [decide_eq_true_eq] at h1 h2 ⊢; omega
  · simp only [Bool.or_eq_true, decide_eq_true_eq]; omega
  · simp only [decide_eq_true_eq]; omega
theorem GOk.order {S : List (Int × Bond)} {n : Int} {eb : List (Ent Int)} {cb : Nat} {el : List (Ent (Int × Int))} {er : List (Ent Int)} (h : GOk S n eb cb el er) {D : List (Ent Int)} (hD : ∀ x ∈ D, x ∈ eb) (hN : D.Nodup) (hall : ∀ e ∈ eb, e ∈ D) :
    srt (D.map (·.1)) = S.map (·.1) := by
  have hne : eb.Nodup := List.Pairwise.of_map (·.1) (fun a b hab e => hab (by rw [e])) h.kb
  have hp : D.Perm eb := (List.perm_ext_iff_of_nodup hN hne).2 fun a => ⟨hD a, hall a⟩
  have hk : eb.map (·.1) = S.map (·.1) := h.keysb
  exact srt_perm (hk ▸ hp.map _) (List.pairwise_map.2 h.inc)

theorem order_raw {w0 w : World} {R : List Chunk} {g mb ml mr : Nat} {n : Int} {eb : List (Ent Int)} {cb : Nat} {el : List (Ent (Int × Int))} {cl : Nat} {er : List (Ent Int)} {cr : Nat} {S : List (Int × Bond)} (hg : GOk S n eb cb el er) (hst : St w0 w ([(g, .cells [.map (some mb), .int .i64 n, .map (some ml), .map (some mr)].toArray 91 (0, 0))] :: [(mb, mapObj kI eb cb)] :: [(ml, mapObj kP el cl)] :: [(mr, mapObj kI er cr)] :: R)) : Calls Tryd.prog 59 #[.pointer (some ⟨g, 0, none⟩)] w (Post1 w0 ([(g, .cells [.map (some mb), .int .i64 n, .map (some ml), .map (some mr)].toArray 91 (0, 0))] :: [(mb, mapObj kI eb cb)] :: [(ml, mapObj kP el cl)] :: [(mr, mapObj kI er cr)] :: R) fun u C => SlI u (S.map (·.1)) C) := by
  refine calls_of (args := [_]) Tryd.func59 rfl Tryd.ntmps59 hst ?_
  refine TC.seq ?_
  refine TC.region ?_
  refine TL.p (EvP.assign rfl) ?_
  refine TL.nil ?_
  refine TX.thenN rfl rfl ?_
  refine TC.seq ?_
  refine TC.seq ?_
  refine TC.region ?_
  refine TL.p (EvP.move rfl) ?_
  refine TL.p (EvP.eqPtrNil Tryd.runUnderlying43 rfl rfl) ?_
  refine TL.nil ?_
  refine TX.thenN rfl rfl ?_
  refine TC.cfalse rfl ?_
  refine TC.skip ?_
  refine TX.thenN rfl rfl ?_
  refine TC.seq ?_
  refine TC.region ?_
  refine TL.p (EvP.assign rfl) ?_
  refine TL.nil ?_
  refine TX.thenN rfl rfl ?_
  refine TC.seq ?_
  refine TC.seq ?_
  refine TC.region ?_
  refine TL.p (EvP.move rfl) ?_
  refine TL.p (EvP.nilP rfl) ?_
  refine TL.p (EvP.fa (e := 0) rfl Tryd.runUnderlying91 rfl Tryd.sizeOf87 rfl) ?_
  refine TL.r (EvR.load rfl Tryd.isAgg87 (AtB.own (by repeat (first | exact Has.hd | refine Has.tlb ?_ | refine Has.tlc ?_))) (by rfl)) ?_
  refine TL.range (ke := kI) Tryd.runUnderlying87 rfl (AtB.own (by repeat (first | exact Has.hd | refine Has.tlb ?_ | refine Has.tlc ?_))) (fun r => ?_)
  refine TL.le Le.nilC ?_
  refine TL.nil ?_
  refine TX.thenN rfl rfl ?_
  refine TC.block ?_
  refine TC.loop (ι := List (Ent Int) × Value × Chunk) (fun (D, v, C) => [(11, .pointer (some ⟨r, 0, none⟩)), (3, v)]) (fun (D, v, C) => [(r, iterObj mb cb D)] :: C :: [(g, .cells [.map (some mb), .int .i64 n, .map (some ml), .map (some mr)].toArray 91 (0, 0))] :: [(mb, mapObj kI eb cb)] :: [(ml, mapObj kP el cl)] :: [(mr, mapObj kI er cr)] :: R) (fun (D, v, C) => (∀ x ∈ D, x ∈ eb) ∧ D.Nodup ∧ SlI v (D.map (·.1)) C) (fun (D, v, C) => eb.length - D.length) (([], .slice none 0 0, [])) (⟨by simp, by simp, Sl.nil⟩) ⟨rfl, rfl, trivial⟩ (by repeat (first | exact Le.refl _ | exact Le.nil _ | refine Le.hit ?_ | refine Le.hit1 ?_ | refine Le.hit2 ?_ | refine Le.hit3 ?_ | refine Le.hit4 ?_ | refine Le.hit5 ?_ | refine Le.hit6 ?_ | refine Le.hit7 ?_ | refine Le.hit8 ?_ | refine Le.hit9 ?_ | refine Le.hit10 ?_ | refine Le.skip ?_)) ?_
  rintro ⟨D, v, C⟩ ⟨hD, hN, hv⟩
  change TC _ _ [(11, .pointer (some ⟨r, 0, none⟩)), (3, v)] ([(r, iterObj mb cb D)] :: C :: [(g, .cells [.map (some mb), .int .i64 n, .map (some ml), .map (some mr)].toArray 91 (0, 0))] :: [(mb, mapObj kI eb cb)] :: [(ml, mapObj kP el cl)] :: [(mr, mapObj kI er cr)] :: R) _
  refine TC.seq ?_
  refine TC.region ?_
  refine TL.next (ke := kI) (b := mb) (D := D) rfl (AtB.own (by repeat (first | exact Has.hd | refine Has.tlb ?_ | refine Has.tlc ?_))) hg.st hD (by repeat (first | exact Has.hd | refine Has.tlb ?_ | refine Has.tlc ?_)) (fun hall => ?_) (fun e he hnD => ⟨_, (by repeat (first | exact Upd.hd | apply Upd.tlb | apply Upd.tlc)), ?_⟩)
  · refine TL.p (EvP.extract rfl rfl) ?_
    refine TL.nil ?_
    refine TX.thenN rfl rfl ?_
    refine TC.seq ?_
    refine TC.cfalse rfl ?_
    refine TC.exit ?_
    refine TX.thenE ?_
    refine TX.thenE ?_
    refine TX.blkH ?_
    refine TX.thenN rfl rfl ?_
    refine TC.seq ?_
    refine TC.region ?_
    refine TL.p (EvP.move rfl) ?_
    refine TL.le (Le.hit1 (Le.refl _)) ?_
    refine TL.callB rfl rfl Tryd.call72 (fun w hs => sort_spec hv hs (by have := nodup_len hN hD; have := hg.small; simp only [List.length_map]; omega)) ?_
    rintro _ C2 ⟨rfl, hv2⟩
    refine TL.nil ?_
    refine TX.thenN rfl rfl ?_
    refine TC.seq ?_
    refine TC.region ?_
    refine TL.p (EvP.move rfl) ?_
    refine TL.p (EvP.assign rfl) ?_
    refine TL.nil ?_
    refine TX.thenN rfl rfl ?_
    refine TC.ret ?_
    refine TX.done rfl (Res.one rfl rfl) (fun w hs => Post1.mk hs ?_ (by repeat (first | exact Le.refl _ | exact Le.nil _ | refine Le.hit ?_ | refine Le.hit1 ?_ | refine Le.hit2 ?_ | refine Le.hit3 ?_ | refine Le.hit4 ?_ | refine Le.hit5 ?_ | refine Le.hit6 ?_ | refine Le.hit7 ?_ | refine Le.hit8 ?_ | refine Le.hit9 ?_ | refine Le.hit10 ?_ | refine Le.skip ?_)))
    rw [← hg.order hD hN hall]
    exact hv2
  · refine TL.p (EvP.extract rfl rfl) ?_
    refine TL.nil ?_
    refine TX.thenN rfl rfl ?_
    refine TC.seq ?_
    refine TC.ctrue rfl ?_
    refine TC.skip ?_
    refine TX.thenN rfl rfl ?_
    refine TC.block ?_
    refine TC.seq ?_
    refine TC.region ?_
    refine TL.r (EvR.entry (ke := kI) (b := mb) (D := D) rfl (AtB.own (by repeat (first | exact Has.hd | refine Has.tlb ?_ | refine Has.tlc ?_))) (AtB.own (by repeat (first | exact Has.hd | refine Has.tlb ?_ | refine Has.tlc ?_))) hg.st he) ?_
    refine TL.p (EvP.extract rfl rfl) ?_
    refine TL.p (EvP.assign rfl) ?_
    refine TL.nil ?_
    refine TX.thenN rfl rfl ?_
    refine TC.region ?_
    refine TL.p (EvP.move rfl) ?_
    refine TL.p (EvP.move rfl) ?_
    refine TL.lit1 (e.1) rfl elI Tryd.underlying35 (by decide) (by decide) encI_ok rfl (fun u1 D2 hD2 => ?_)
    refine TL.le (Le.hit2 (Le.refl _)) ?_
    refine TL.append rfl rfl elI Tryd.underlying35 encI_ok hv (SrcR.sl Tryd.underlying35 encI_ok hD2 (by simp)) (by have := nodup_len hN hD; have := hg.small; simp only [List.length_map, List.length_singleton]; omega) (by decide) (fun v3 C4 hC4 => ?_)
    refine TL.p (EvP.assign rfl) ?_
    refine TL.nil ?_
    refine TX.blkN ?_
    refine TX.back ((D ++ [e], v3, C4)) (⟨fun x hx => (List.mem_append.1 hx).elim (hD x) (fun h => List.mem_singleton.1 h ▸ he), nodup_snoc hN hnD, by rw [List.map_append]; exact hC4⟩) (by have := nodup_room hN hD he hnD; simp only [List.length_append, List.length_singleton]; omega) ⟨rfl, rfl, trivial⟩ (by repeat (first | exact Le.refl _ | exact Le.nil _ | refine Le.hit ?_ | refine Le.hit1 ?_ | refine Le.hit2 ?_ | refine Le.hit3 ?_ | refine Le.hit4 ?_ | refine Le.hit5 ?_ | refine Le.hit6 ?_ | refine Le.hit7 ?_ | refine Le.hit8 ?_ | refine Le.hit9 ?_ | refine Le.hit10 ?_ | refine Le.skip ?_))
end Go.Proofs.YtdbpandamnkpdaaDoor
