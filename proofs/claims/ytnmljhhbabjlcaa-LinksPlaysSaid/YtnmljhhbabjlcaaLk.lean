/-
  Walks of the law's two collectors: what the iterators tell, up to a number.
-/
import Derived.Test.YtnmljhhbabjlcaaLj
set_option linter.unusedSimpArgs false
set_option linter.unusedVariables false
namespace Go.Proofs.Ytnmljhhbabjlcaa
open Go Go.RowKit

theorem every_raw {w0 w : World} {R : List Chunk} {g mb ml mr : Nat} {n : Int} {eb : List (Ent Int)} {cb : Nat} {el : List (Ent (Int × Int))} {cl : Nat} {er : List (Ent Int)} {cr : Nat} {S : List (Int × Bond)} (hg : GOk S n eb cb el er) {most : Int} (hm : 1 ≤ most) (hst : St w0 w ([(g, .cells [.map (some mb), .int .i64 n, .map (some ml), .map (some mr)].toArray 65 (0, 0))] :: [(mb, mapObj kI eb cb)] :: [(ml, mapObj kP el cl)] :: [(mr, mapObj kI er cr)] :: R)) : Calls Try.prog 15 #[.pointer (some ⟨g, 0, none⟩), .int .i64 most] w (Post1 w0 ([(g, .cells [.map (some mb), .int .i64 n, .map (some ml), .map (some mr)].toArray 65 (0, 0))] :: [(mb, mapObj kI eb cb)] :: [(ml, mapObj kP el cl)] :: [(mr, mapObj kI er cr)] :: R) fun u C => Sl 48 3 Bond.enc u (((S.map (·.2)).filter (fun _ => true)).take most.toNat) C) := by
  refine calls_of (args := [_, _]) Try.func15 rfl Try.ntmps15 hst ?_
  refine TC.seq ?_
  refine TC.region ?_
  refine TL.box rfl rfl (fun b3 => ?_)
  refine TL.p (EvP.assign rfl) ?_
  refine TL.nil ?_
  refine TX.thenN rfl rfl ?_
  refine TC.seq ?_
  refine TC.region ?_
  refine TL.alloc Try.zeroValue27 rfl (fun b5 => ?_)
  refine TL.nil ?_
  refine TX.thenN rfl rfl ?_
  refine TC.seq ?_
  refine TC.region ?_
  refine TL.p (EvP.move rfl) ?_
  refine TL.callC rfl rfl Try.call40 (fun w hs => All_spec hs) ?_
  rintro _ _ _ ⟨b1, b2, rfl, rfl, rfl⟩
  refine TL.p (EvP.assign rfl) ?_
  refine TL.nil ?_
  refine TX.thenN rfl rfl ?_
  refine TC.seq ?_
  refine TC.seq ?_
  refine TC.region ?_
  refine TL.p (EvP.move rfl) ?_
  refine TL.p (EvP.eqFnNil Try.runUnderlying69 rfl rfl) ?_
  refine TL.nil ?_
  refine TX.thenN rfl rfl ?_
  refine TC.cfalse rfl ?_
  refine TC.skip ?_
  refine TX.thenN rfl rfl ?_
  refine TC.seq ?_
  refine TC.seq ?_
  refine TC.region ?_
  refine TL.p (EvP.move rfl) ?_
  refine TL.nil ?_
  refine TX.thenN rfl rfl ?_
  refine TC.block ?_
  refine TC.le (H' := [(b1, .cells [.pointer (some ⟨g, 0, none⟩)].toArray 24 (0, 0))] :: [(b2, .cells [.func (.func 54) #[] #[]].toArray 83 (0, 0))] :: [(g, .cells [.map (some mb), .int .i64 n, .map (some ml), .map (some mr)].toArray 65 (0, 0))] :: [(mb, mapObj kI eb cb)] :: [(ml, mapObj kP el cl)] :: [(mr, mapObj kI er cr)] :: [(b5, .cells [.slice none 0 0].toArray 27 (0, 0))] :: ([] : Chunk) :: [(b3, .cells [.int .i64 most].toArray 3 (0, 0))] :: R) (Le.trans (Le.hit (Le.hit (Le.hit (Le.hit (Le.hit (Le.hit (Le.hit (Le.nilC)))))))) (by repeat (first | exact Le.refl _ | exact Le.nil _ | refine Le.hit ?_ | refine Le.hit1 ?_ | refine Le.hit2 ?_ | refine Le.hit3 ?_ | refine Le.hit4 ?_ | refine Le.hit5 ?_ | refine Le.hit6 ?_ | refine Le.hit7 ?_ | refine Le.hit8 ?_ | refine Le.hit9 ?_ | refine Le.hit10 ?_ | refine Le.skip ?_))) ?_
  refine TC.rangeF (Hit := [[(b1, .cells [.pointer (some ⟨g, 0, none⟩)].toArray 24 (0, 0))], [(b2, .cells [.func (.func 54) #[] #[]].toArray 83 (0, 0))], [(g, .cells [.map (some mb), .int .i64 n, .map (some ml), .map (some mr)].toArray 65 (0, 0))], [(mb, mapObj kI eb cb)], [(ml, mapObj kP el cl)], [(mr, mapObj kI er cr)]]) (R0 := [(b5, .cells [.slice none 0 0].toArray 27 (0, 0))] :: ([] : Chunk) :: [(b3, .cells [.int .i64 most].toArray 3 (0, 0))] :: R) rfl rfl Try.call59 (iter_all hg) (by intro x hx; obtain ⟨b, _, rfl⟩ := List.mem_map.1 hx; rfl) rfl (Le.refl _)
    (fun i R2 => ∃ u Cu, R2 = ([(b5, .cells [u].toArray 27 (0, 0))] :: Cu :: [(b3, .cells [.int .i64 most].toArray 3 (0, 0))] :: R) ∧ Sl 48 3 Bond.enc u (((S.map (·.2)).filter (fun _ => true)).take i) Cu ∧ (i : Int) < most)
    (fun j R2 => j = some 0 ∧ ∃ u Cu, R2 = ([(b5, .cells [u].toArray 27 (0, 0))] :: Cu :: [(b3, .cells [.int .i64 most].toArray 3 (0, 0))] :: R) ∧ Sl 48 3 Bond.enc u (((S.map (·.2)).filter (fun _ => true)).take most.toNat) Cu) ⟨_, _, rfl, Sl.nil, by omega⟩ ?_ ?_ ?_
  · rintro l i x _ HL HL2 hx ⟨u, Cu, rfl, hu, him⟩
    obtain ⟨b, hb, rfl⟩ : ∃ b, ((S.map (·.2)).filter (fun _ => true))[i]? = some b ∧ x = [b.v] := by rw [List.getElem?_map, Option.map_eq_some_iff] at hx; obtain ⟨b, h1, h2⟩ := hx; exact ⟨b, h1, h2.symm⟩
    have hlt := (List.getElem?_eq_some_iff.1 hb).1
    have hsm : ((S.map (·.2)).filter (fun _ => true)).length ≤ 1024 := Nat.le_trans (List.length_filter_le _ _) hg.ok.len
    refine TC.region ?_
    refine TL.alloc Try.zeroValue48 rfl (fun b7 => ?_)
    refine TL.u (EvU.store rfl rfl Try.sizeOf48 rfl rfl rfl rfl (by repeat (first | exact Has.hd | refine Has.tlb ?_ | refine Has.tlc ?_)) (by repeat (first | exact SetLs.nil | exact SetL.here | apply SetLs.cons | apply SetL.there)) (by repeat (first | exact Upd.hd | apply Upd.tlb | apply Upd.tlc))) ?_
    refine TL.nil ?_
    refine TX.begin (R2 := [(b7, .cells b.enc.toArray 48 (0, 0))] :: [(b5, .cells [u].toArray 27 (0, 0))] :: Cu :: [(b3, .cells [.int .i64 most].toArray 3 (0, 0))] :: R) ?_
    refine TC.block ?_
    refine TC.seq ?_
    refine TC.region ?_
    refine TL.r (EvR.load rfl Try.isAgg27 (AtB.own (by repeat (first | exact Has.hd | refine Has.tlb ?_ | refine Has.tlc ?_))) (by rfl)) ?_
    refine TL.r (EvR.loadN (vs := [_, _, _]) rfl Try.isAgg48 Try.sizeOf48 (AtB.own (by repeat (first | exact Has.hd | refine Has.tlb ?_ | refine Has.tlc ?_))) (by exact ⟨rfl, rfl, rfl,  trivial⟩)) ?_
    refine TL.lit1 (b) rfl elB Try.underlying27 (by decide) (by decide) encB_ok rfl (fun u1 D2 hD2 => ?_)
    refine TL.le (Le.hit3 (Le.refl _)) ?_
    refine TL.append rfl rfl elB Try.underlying27 encB_ok hu (SrcR.sl Try.underlying27 encB_ok hD2 (by simp)) (by rw [List.length_take]; simp only [List.length_singleton]; omega) (by decide) (fun v3 C4 hC4 => ?_)
    refine TL.u (EvU.store1 rfl rfl Try.sizeOf27 (by first | rfl | (apply Sl.one; assumption)) (by repeat (first | exact Has.hd | refine Has.tlb ?_ | refine Has.tlc ?_)) (by repeat (first | exact SetL.here | apply SetL.there)) (by repeat (first | exact Upd.hd | apply Upd.tlb | apply Upd.tlc))) ?_
    refine TL.nil ?_
    refine TX.thenN rfl rfl ?_
    refine TC.seq ?_
    refine TC.region ?_
    refine TL.r (EvR.load rfl Try.isAgg27 (AtB.own (by repeat (first | exact Has.hd | refine Has.tlb ?_ | refine Has.tlc ?_))) (by rfl)) ?_
    obtain ⟨q1, q2, hq, _, _⟩ := hC4.len
    subst hq
    refine TL.p (EvP.lenS Try.runUnderlying27 rfl) ?_
    refine TL.r (EvR.load rfl Try.isAgg3 (AtB.own (by repeat (first | exact Has.hd | refine Has.tlb ?_ | refine Has.tlc ?_))) (by rfl)) ?_
    refine TL.dec (EvP.ge rfl rfl) (fun h21 => ?_) (fun h21 => ?_)
    · refine TL.nil ?_
      refine TX.thenN rfl rfl ?_
      refine TC.ctrue rfl ?_
      refine TC.exit ?_
      refine TX.blkM rfl ?_
      refine TX.roundE (R' := [(b5, .cells [(.slice q1 _ q2)].toArray 27 (0, 0))] :: C4 :: [(b3, .cells [.int .i64 most].toArray 3 (0, 0))] :: R) ⟨rfl, _, C4, rfl, ?_⟩ (by simp only [List.cons_append, List.nil_append]; repeat (first | exact Le.refl _ | exact Le.nil _ | refine Le.hit ?_ | refine Le.hit1 ?_ | refine Le.hit2 ?_ | refine Le.hit3 ?_ | refine Le.hit4 ?_ | refine Le.hit5 ?_ | refine Le.hit6 ?_ | refine Le.hit7 ?_ | refine Le.hit8 ?_ | refine Le.hit9 ?_ | refine Le.hit10 ?_ | refine Le.skip ?_))
      simp only [List.length_append, List.length_take, List.length_singleton] at h21
      rw [show most.toNat = i + 1 from by omega, take_snoc hb]; exact hC4
    · refine TL.nil ?_
      refine TX.thenN rfl rfl ?_
      refine TC.cfalse rfl ?_
      refine TC.skip ?_
      refine TX.blkN ?_
      refine TX.roundN (R' := [(b5, .cells [(.slice q1 _ q2)].toArray 27 (0, 0))] :: C4 :: [(b3, .cells [.int .i64 most].toArray 3 (0, 0))] :: R) ⟨_, C4, rfl, ?_, ?_⟩ (by simp only [List.cons_append, List.nil_append]; repeat (first | exact Le.refl _ | exact Le.nil _ | refine Le.hit ?_ | refine Le.hit1 ?_ | refine Le.hit2 ?_ | refine Le.hit3 ?_ | refine Le.hit4 ?_ | refine Le.hit5 ?_ | refine Le.hit6 ?_ | refine Le.hit7 ?_ | refine Le.hit8 ?_ | refine Le.hit9 ?_ | refine Le.hit10 ?_ | refine Le.skip ?_))
      · rw [take_snoc hb]; exact hC4
      · simp only [List.length_append, List.length_take, List.length_singleton] at h21; omega
  · rintro dd _ ⟨u, Cu, rfl, hu, him⟩
    refine TX.le Le.comm2 ?_
    refine TX.blkN ?_
    refine TX.thenN rfl rfl ?_
    refine TC.seq ?_
    refine TC.region ?_
    refine TL.r (EvR.load rfl Try.isAgg27 (AtB.own (by repeat (first | exact Has.hd | refine Has.tlb ?_ | refine Has.tlc ?_))) (by rfl)) ?_
    refine TL.p (EvP.assign rfl) ?_
    refine TL.nil ?_
    refine TX.thenN rfl rfl ?_
    refine TC.ret ?_
    refine TX.doneM rfl (by repeat (first | exact Upd.hd | apply Upd.tlb | apply Upd.tlc)) (Res.one rfl rfl) (fun w hs => Post1.mk (C := Cu) hs ?_ (by simp only [List.cons_append, List.nil_append]; repeat (first | exact Le.refl _ | exact Le.nil _ | refine Le.hit ?_ | refine Le.hit1 ?_ | refine Le.hit2 ?_ | refine Le.hit3 ?_ | refine Le.hit4 ?_ | refine Le.hit5 ?_ | refine Le.hit6 ?_ | refine Le.hit7 ?_ | refine Le.hit8 ?_ | refine Le.hit9 ?_ | refine Le.hit10 ?_ | refine Le.skip ?_)))
    rw [List.length_map] at hu him
    rw [List.take_length] at hu
    rw [List.take_of_length_le (by omega)]; exact hu
  · rintro dd _ _ ⟨rfl, u, Cu, rfl, hu⟩
    refine TC.le Le.comm2 ?_
    refine TC.exit ?_
    refine TX.blkH ?_
    refine TX.thenN rfl rfl ?_
    refine TC.seq ?_
    refine TC.region ?_
    refine TL.r (EvR.load rfl Try.isAgg27 (AtB.own (by repeat (first | exact Has.hd | refine Has.tlb ?_ | refine Has.tlc ?_))) (by rfl)) ?_
    refine TL.p (EvP.assign rfl) ?_
    refine TL.nil ?_
    refine TX.thenN rfl rfl ?_
    refine TC.ret ?_
    refine TX.doneM rfl (by repeat (first | exact Upd.hd | apply Upd.tlb | apply Upd.tlc)) (Res.one rfl rfl) (fun w hs => Post1.mk (C := Cu) hs ?_ (by simp only [List.cons_append, List.nil_append]; repeat (first | exact Le.refl _ | exact Le.nil _ | refine Le.hit ?_ | refine Le.hit1 ?_ | refine Le.hit2 ?_ | refine Le.hit3 ?_ | refine Le.hit4 ?_ | refine Le.hit5 ?_ | refine Le.hit6 ?_ | refine Le.hit7 ?_ | refine Le.hit8 ?_ | refine Le.hit9 ?_ | refine Le.hit10 ?_ | refine Le.skip ?_)))
    exact hu

theorem of_raw {w0 w : World} {R : List Chunk} {g mb ml mr : Nat} {n : Int} {eb : List (Ent Int)} {cb : Nat} {el : List (Ent (Int × Int))} {cl : Nat} {er : List (Ent Int)} {cr : Nat} {S : List (Int × Bond)} (hg : GOk S n eb cb el er) {pid : Int} {most : Int} (hm : 1 ≤ most) (hst : St w0 w ([(g, .cells [.map (some mb), .int .i64 n, .map (some ml), .map (some mr)].toArray 65 (0, 0))] :: [(mb, mapObj kI eb cb)] :: [(ml, mapObj kP el cl)] :: [(mr, mapObj kI er cr)] :: R)) : Calls Try.prog 21 #[.pointer (some ⟨g, 0, none⟩), .int .i64 pid, .int .i64 most] w (Post1 w0 ([(g, .cells [.map (some mb), .int .i64 n, .map (some ml), .map (some mr)].toArray 65 (0, 0))] :: [(mb, mapObj kI eb cb)] :: [(ml, mapObj kP el cl)] :: [(mr, mapObj kI er cr)] :: R) fun u C => Sl 48 3 Bond.enc u (((S.map (·.2)).filter (ofP pid)).take most.toNat) C) := by
  refine calls_of (args := [_, _, _]) Try.func21 rfl Try.ntmps21 hst ?_
  refine TC.seq ?_
  refine TC.region ?_
  refine TL.box rfl rfl (fun b5 => ?_)
  refine TL.p (EvP.assign rfl) ?_
  refine TL.nil ?_
  refine TX.thenN rfl rfl ?_
  refine TC.seq ?_
  refine TC.region ?_
  refine TL.alloc Try.zeroValue27 rfl (fun b7 => ?_)
  refine TL.nil ?_
  refine TX.thenN rfl rfl ?_
  refine TC.seq ?_
  refine TC.region ?_
  refine TL.p (EvP.move rfl) ?_
  refine TL.p (EvP.move rfl) ?_
  refine TL.callD rfl rfl Try.call43 (fun w hs => Of_spec hs) ?_
  rintro _ _ _ _ ⟨b1, b2, p, rfl, rfl, rfl, rfl⟩
  refine TL.p (EvP.assign rfl) ?_
  refine TL.nil ?_
  refine TX.thenN rfl rfl ?_
  refine TC.seq ?_
  refine TC.seq ?_
  refine TC.region ?_
  refine TL.p (EvP.move rfl) ?_
  refine TL.p (EvP.eqFnNil Try.runUnderlying69 rfl rfl) ?_
  refine TL.nil ?_
  refine TX.thenN rfl rfl ?_
  refine TC.cfalse rfl ?_
  refine TC.skip ?_
  refine TX.thenN rfl rfl ?_
  refine TC.seq ?_
  refine TC.seq ?_
  refine TC.region ?_
  refine TL.p (EvP.move rfl) ?_
  refine TL.nil ?_
  refine TX.thenN rfl rfl ?_
  refine TC.block ?_
  refine TC.le (H' := [(b1, .cells [.pointer (some ⟨g, 0, none⟩)].toArray 24 (0, 0))] :: [(b2, .cells [.func (.func 55) #[] #[.pointer (some ⟨p, 0, none⟩)]].toArray 83 (0, 0))] :: [(p, .cells [.int .i64 pid].toArray 2 (0, 0))] :: [(g, .cells [.map (some mb), .int .i64 n, .map (some ml), .map (some mr)].toArray 65 (0, 0))] :: [(mb, mapObj kI eb cb)] :: [(ml, mapObj kP el cl)] :: [(mr, mapObj kI er cr)] :: [(b7, .cells [.slice none 0 0].toArray 27 (0, 0))] :: ([] : Chunk) :: [(b5, .cells [.int .i64 most].toArray 3 (0, 0))] :: R) (Le.trans (Le.hit (Le.hit (Le.hit (Le.hit (Le.hit (Le.hit (Le.hit (Le.hit (Le.nilC))))))))) (by repeat (first | exact Le.refl _ | exact Le.nil _ | refine Le.hit ?_ | refine Le.hit1 ?_ | refine Le.hit2 ?_ | refine Le.hit3 ?_ | refine Le.hit4 ?_ | refine Le.hit5 ?_ | refine Le.hit6 ?_ | refine Le.hit7 ?_ | refine Le.hit8 ?_ | refine Le.hit9 ?_ | refine Le.hit10 ?_ | refine Le.skip ?_))) ?_
  refine TC.rangeF (Hit := [[(b1, .cells [.pointer (some ⟨g, 0, none⟩)].toArray 24 (0, 0))], [(b2, .cells [.func (.func 55) #[] #[.pointer (some ⟨p, 0, none⟩)]].toArray 83 (0, 0))], [(p, .cells [.int .i64 pid].toArray 2 (0, 0))], [(g, .cells [.map (some mb), .int .i64 n, .map (some ml), .map (some mr)].toArray 65 (0, 0))], [(mb, mapObj kI eb cb)], [(ml, mapObj kP el cl)], [(mr, mapObj kI er cr)]]) (R0 := [(b7, .cells [.slice none 0 0].toArray 27 (0, 0))] :: ([] : Chunk) :: [(b5, .cells [.int .i64 most].toArray 3 (0, 0))] :: R) rfl rfl Try.call59 (iter_of hg) (by intro x hx; obtain ⟨b, _, rfl⟩ := List.mem_map.1 hx; rfl) rfl (Le.refl _)
    (fun i R2 => ∃ u Cu, R2 = ([(b7, .cells [u].toArray 27 (0, 0))] :: Cu :: [(b5, .cells [.int .i64 most].toArray 3 (0, 0))] :: R) ∧ Sl 48 3 Bond.enc u (((S.map (·.2)).filter (ofP pid)).take i) Cu ∧ (i : Int) < most)
    (fun j R2 => j = some 0 ∧ ∃ u Cu, R2 = ([(b7, .cells [u].toArray 27 (0, 0))] :: Cu :: [(b5, .cells [.int .i64 most].toArray 3 (0, 0))] :: R) ∧ Sl 48 3 Bond.enc u (((S.map (·.2)).filter (ofP pid)).take most.toNat) Cu) ⟨_, _, rfl, Sl.nil, by omega⟩ ?_ ?_ ?_
  · rintro l i x _ HL HL2 hx ⟨u, Cu, rfl, hu, him⟩
    obtain ⟨b, hb, rfl⟩ : ∃ b, ((S.map (·.2)).filter (ofP pid))[i]? = some b ∧ x = [b.v] := by rw [List.getElem?_map, Option.map_eq_some_iff] at hx; obtain ⟨b, h1, h2⟩ := hx; exact ⟨b, h1, h2.symm⟩
    have hlt := (List.getElem?_eq_some_iff.1 hb).1
    have hsm : ((S.map (·.2)).filter (ofP pid)).length ≤ 1024 := Nat.le_trans (List.length_filter_le _ _) hg.ok.len
    refine TC.region ?_
    refine TL.alloc Try.zeroValue48 rfl (fun b9 => ?_)
    refine TL.u (EvU.store rfl rfl Try.sizeOf48 rfl rfl rfl rfl (by repeat (first | exact Has.hd | refine Has.tlb ?_ | refine Has.tlc ?_)) (by repeat (first | exact SetLs.nil | exact SetL.here | apply SetLs.cons | apply SetL.there)) (by repeat (first | exact Upd.hd | apply Upd.tlb | apply Upd.tlc))) ?_
    refine TL.nil ?_
    refine TX.begin (R2 := [(b9, .cells b.enc.toArray 48 (0, 0))] :: [(b7, .cells [u].toArray 27 (0, 0))] :: Cu :: [(b5, .cells [.int .i64 most].toArray 3 (0, 0))] :: R) ?_
    refine TC.block ?_
    refine TC.seq ?_
    refine TC.region ?_
    refine TL.r (EvR.load rfl Try.isAgg27 (AtB.own (by repeat (first | exact Has.hd | refine Has.tlb ?_ | refine Has.tlc ?_))) (by rfl)) ?_
    refine TL.r (EvR.loadN (vs := [_, _, _]) rfl Try.isAgg48 Try.sizeOf48 (AtB.own (by repeat (first | exact Has.hd | refine Has.tlb ?_ | refine Has.tlc ?_))) (by exact ⟨rfl, rfl, rfl,  trivial⟩)) ?_
    refine TL.lit1 (b) rfl elB Try.underlying27 (by decide) (by decide) encB_ok rfl (fun u1 D2 hD2 => ?_)
    refine TL.le (Le.hit3 (Le.refl _)) ?_
    refine TL.append rfl rfl elB Try.underlying27 encB_ok hu (SrcR.sl Try.underlying27 encB_ok hD2 (by simp)) (by rw [List.length_take]; simp only [List.length_singleton]; omega) (by decide) (fun v3 C4 hC4 => ?_)
    refine TL.u (EvU.store1 rfl rfl Try.sizeOf27 (by first | rfl | (apply Sl.one; assumption)) (by repeat (first | exact Has.hd | refine Has.tlb ?_ | refine Has.tlc ?_)) (by repeat (first | exact SetL.here | apply SetL.there)) (by repeat (first | exact Upd.hd | apply Upd.tlb | apply Upd.tlc))) ?_
    refine TL.nil ?_
    refine TX.thenN rfl rfl ?_
    refine TC.seq ?_
    refine TC.region ?_
    refine TL.r (EvR.load rfl Try.isAgg27 (AtB.own (by repeat (first | exact Has.hd | refine Has.tlb ?_ | refine Has.tlc ?_))) (by rfl)) ?_
    obtain ⟨q1, q2, hq, _, _⟩ := hC4.len
    subst hq
    refine TL.p (EvP.lenS Try.runUnderlying27 rfl) ?_
    refine TL.r (EvR.load rfl Try.isAgg3 (AtB.own (by repeat (first | exact Has.hd | refine Has.tlb ?_ | refine Has.tlc ?_))) (by rfl)) ?_
    refine TL.dec (EvP.ge rfl rfl) (fun h24 => ?_) (fun h24 => ?_)
    · refine TL.nil ?_
      refine TX.thenN rfl rfl ?_
      refine TC.ctrue rfl ?_
      refine TC.exit ?_
      refine TX.blkM rfl ?_
      refine TX.roundE (R' := [(b7, .cells [(.slice q1 _ q2)].toArray 27 (0, 0))] :: C4 :: [(b5, .cells [.int .i64 most].toArray 3 (0, 0))] :: R) ⟨rfl, _, C4, rfl, ?_⟩ (by simp only [List.cons_append, List.nil_append]; repeat (first | exact Le.refl _ | exact Le.nil _ | refine Le.hit ?_ | refine Le.hit1 ?_ | refine Le.hit2 ?_ | refine Le.hit3 ?_ | refine Le.hit4 ?_ | refine Le.hit5 ?_ | refine Le.hit6 ?_ | refine Le.hit7 ?_ | refine Le.hit8 ?_ | refine Le.hit9 ?_ | refine Le.hit10 ?_ | refine Le.skip ?_))
      simp only [List.length_append, List.length_take, List.length_singleton] at h24
      rw [show most.toNat = i + 1 from by omega, take_snoc hb]; exact hC4
    · refine TL.nil ?_
      refine TX.thenN rfl rfl ?_
      refine TC.cfalse rfl ?_
      refine TC.skip ?_
      refine TX.blkN ?_
      refine TX.roundN (R' := [(b7, .cells [(.slice q1 _ q2)].toArray 27 (0, 0))] :: C4 :: [(b5, .cells [.int .i64 most].toArray 3 (0, 0))] :: R) ⟨_, C4, rfl, ?_, ?_⟩ (by simp only [List.cons_append, List.nil_append]; repeat (first | exact Le.refl _ | exact Le.nil _ | refine Le.hit ?_ | refine Le.hit1 ?_ | refine Le.hit2 ?_ | refine Le.hit3 ?_ | refine Le.hit4 ?_ | refine Le.hit5 ?_ | refine Le.hit6 ?_ | refine Le.hit7 ?_ | refine Le.hit8 ?_ | refine Le.hit9 ?_ | refine Le.hit10 ?_ | refine Le.skip ?_))
      · rw [take_snoc hb]; exact hC4
      · simp only [List.length_append, List.length_take, List.length_singleton] at h24; omega
  · rintro dd _ ⟨u, Cu, rfl, hu, him⟩
    refine TX.le Le.comm2 ?_
    refine TX.blkN ?_
    refine TX.thenN rfl rfl ?_
    refine TC.seq ?_
    refine TC.region ?_
    refine TL.r (EvR.load rfl Try.isAgg27 (AtB.own (by repeat (first | exact Has.hd | refine Has.tlb ?_ | refine Has.tlc ?_))) (by rfl)) ?_
    refine TL.p (EvP.assign rfl) ?_
    refine TL.nil ?_
    refine TX.thenN rfl rfl ?_
    refine TC.ret ?_
    refine TX.doneM rfl (by repeat (first | exact Upd.hd | apply Upd.tlb | apply Upd.tlc)) (Res.one rfl rfl) (fun w hs => Post1.mk (C := Cu) hs ?_ (by simp only [List.cons_append, List.nil_append]; repeat (first | exact Le.refl _ | exact Le.nil _ | refine Le.hit ?_ | refine Le.hit1 ?_ | refine Le.hit2 ?_ | refine Le.hit3 ?_ | refine Le.hit4 ?_ | refine Le.hit5 ?_ | refine Le.hit6 ?_ | refine Le.hit7 ?_ | refine Le.hit8 ?_ | refine Le.hit9 ?_ | refine Le.hit10 ?_ | refine Le.skip ?_)))
    rw [List.length_map] at hu him
    rw [List.take_length] at hu
    rw [List.take_of_length_le (by omega)]; exact hu
  · rintro dd _ _ ⟨rfl, u, Cu, rfl, hu⟩
    refine TC.le Le.comm2 ?_
    refine TC.exit ?_
    refine TX.blkH ?_
    refine TX.thenN rfl rfl ?_
    refine TC.seq ?_
    refine TC.region ?_
    refine TL.r (EvR.load rfl Try.isAgg27 (AtB.own (by repeat (first | exact Has.hd | refine Has.tlb ?_ | refine Has.tlc ?_))) (by rfl)) ?_
    refine TL.p (EvP.assign rfl) ?_
    refine TL.nil ?_
    refine TX.thenN rfl rfl ?_
    refine TC.ret ?_
    refine TX.doneM rfl (by repeat (first | exact Upd.hd | apply Upd.tlb | apply Upd.tlc)) (Res.one rfl rfl) (fun w hs => Post1.mk (C := Cu) hs ?_ (by simp only [List.cons_append, List.nil_append]; repeat (first | exact Le.refl _ | exact Le.nil _ | refine Le.hit ?_ | refine Le.hit1 ?_ | refine Le.hit2 ?_ | refine Le.hit3 ?_ | refine Le.hit4 ?_ | refine Le.hit5 ?_ | refine Le.hit6 ?_ | refine Le.hit7 ?_ | refine Le.hit8 ?_ | refine Le.hit9 ?_ | refine Le.hit10 ?_ | refine Le.skip ?_)))
    exact hu
end Go.Proofs.Ytnmljhhbabjlcaa
