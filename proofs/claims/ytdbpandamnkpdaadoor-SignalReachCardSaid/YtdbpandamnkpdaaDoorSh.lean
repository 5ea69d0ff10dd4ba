/-
  A death; the iterator over the bonds told.
-/
import Derived.Test.YtdbpandamnkpdaaDoorSg
set_option linter.unusedSimpArgs false
set_option linter.unusedVariables false
set_option maxRecDepth 100000
namespace Go.Proofs.YtdbpandamnkpdaaDoor
open Go Go.RowKit Go.Lib

theorem values_spec {w0 w : World} {R : List Chunk} {a : Option Addr} {n c : Nat} (hst : St w0 w R) : Calls Tryd.prog 41 #[.slice a n c] w (Post1 w0 R fun v C => ∃ b1, v = .func (.func 61) #[] #[.pointer (some ⟨b1, 0, none⟩)] ∧ C = [(b1, .cells [.slice a n c].toArray 71 (0, 0))]) := by
  refine calls_of (args := [_]) Tryd.func41 rfl Tryd.ntmps41 hst ?_
  refine TC.seq ?_
  refine TC.region ?_
  refine TL.box rfl rfl (fun b1 => ?_)
  refine TL.p (EvP.assign rfl) ?_
  refine TL.nil ?_
  refine TX.thenN rfl rfl ?_
  refine TC.seq ?_
  refine TC.region ?_
  refine TL.p (EvP.makeFunc rfl rfl) ?_
  refine TL.p (EvP.assign rfl) ?_
  refine TL.nil ?_
  refine TX.thenN rfl rfl ?_
  refine TC.ret ?_
  refine TX.done rfl (Res.one rfl rfl) (fun w hs => Post1.mk (C := [(b1, .cells [.slice a n c].toArray 71 (0, 0))]) hs ?_ (by repeat (first | exact Le.refl _ | exact Le.nil _ | refine Le.hit ?_ | refine Le.hit1 ?_ | refine Le.hit2 ?_ | refine Le.hit3 ?_ | refine Le.hit4 ?_ | refine Le.hit5 ?_ | refine Le.hit6 ?_ | refine Le.hit7 ?_ | refine Le.hit8 ?_ | refine Le.hit9 ?_ | refine Le.hit10 ?_ | refine Le.skip ?_)))
  exact ⟨b1, rfl, rfl⟩

theorem iter_values {b1 : Nat} {a : Option Addr} {c : Nat} {xs : List Bond} {D : Chunk} (ht : Sl 78 3 Bond.enc (.slice a xs.length c) xs D) (hsz : xs.length ≤ 4398046511104) : Iter Tryd.prog 61 [.pointer (some ⟨b1, 0, none⟩)] [[(b1, .cells [.slice a xs.length c].toArray 71 (0, 0))], D] (xs.map fun b => [b.v]) := by
  intro w0 l J Jx hy R w hJ0 hst
  refine calls_of (args := [_, _]) Tryd.func61 rfl Tryd.ntmps61 hst ?_
  refine TC.seq ?_
  refine TC.region ?_
  refine TL.r (EvR.load rfl Tryd.isAgg71 (AtB.own (by repeat (first | exact Has.hd | refine Has.tlb ?_ | refine Has.tlc ?_))) (by rfl)) ?_
  refine TL.p (EvP.lenS Tryd.runUnderlying71 rfl) ?_
  refine TL.p (EvP.move rfl) ?_
  refine TL.nil ?_
  refine TX.thenN rfl rfl ?_
  refine TC.block ?_
  refine TC.loop (ι := Nat × List Chunk) (fun (i, Rj) => [(0, .func (.yield l) #[] #[]), (1, .pointer (some ⟨b1, 0, none⟩)), (5, .slice a xs.length c), (6, .int .i64 xs.length), (7, .int .i64 i)]) (fun (i, Rj) => [[(b1, .cells [.slice a xs.length c].toArray 71 (0, 0))], D] ++ Rj) (fun (i, Rj) => i ≤ xs.length ∧ J i Rj) (fun (i, Rj) => xs.length - i) ((0, R)) (⟨Nat.zero_le _, hJ0⟩) ⟨rfl, rfl, rfl, rfl, rfl, trivial⟩ (by repeat (first | exact Le.refl _ | exact Le.nil _ | refine Le.hit ?_ | refine Le.hit1 ?_ | refine Le.hit2 ?_ | refine Le.hit3 ?_ | refine Le.hit4 ?_ | refine Le.hit5 ?_ | refine Le.hit6 ?_ | refine Le.hit7 ?_ | refine Le.hit8 ?_ | refine Le.hit9 ?_ | refine Le.hit10 ?_ | refine Le.skip ?_)) ?_
  rintro ⟨i, Rj⟩ ⟨hi, hJ⟩
  change TC _ _ [(0, .func (.yield l) #[] #[]), (1, .pointer (some ⟨b1, 0, none⟩)), (5, .slice a xs.length c), (6, .int .i64 xs.length), (7, .int .i64 i)] ([[(b1, .cells [.slice a xs.length c].toArray 71 (0, 0))], D] ++ Rj) _
  refine TC.seq ?_
  refine TC.region ?_
  refine TL.dec (EvP.lt rfl rfl) (fun h8 => ?_) (fun h8 => ?_)
  · refine TL.nil ?_
    refine TX.thenN rfl rfl ?_
    refine TC.seq ?_
    refine TC.ctrue rfl ?_
    refine TC.skip ?_
    refine TX.thenN rfl rfl ?_
    refine TC.seq ?_
    refine TC.block ?_
    refine TC.seq ?_
    refine TC.region ?_
    have hi2 : i < xs.length := by omega
    obtain ⟨e, hx⟩ : ∃ e, xs[i]? = some e := ⟨_, List.getElem?_eq_getElem hi2⟩
    refine TL.elem (ht.el encB_ok (j := i) (x := e) hx (by simp)) Tryd.runUnderlying71 Tryd.sizeOf78 rfl rfl (fun bE oE lE _ _ hE hcE => ?_)
    refine TL.r (EvR.loadN (vs := [_, _, _]) rfl Tryd.isAgg78 Tryd.sizeOf78 hE hcE) ?_
    refine TL.alloc Tryd.zeroValue78 rfl (fun b4 => ?_)
    refine TL.u (EvU.store rfl rfl Tryd.sizeOf78 rfl rfl rfl rfl (by repeat (first | exact Has.hd | refine Has.tlb ?_ | refine Has.tlc ?_)) (by repeat (first | exact SetLs.nil | exact SetL.here | apply SetLs.cons | apply SetL.there)) (by repeat (first | exact Upd.hd | apply Upd.tlb | apply Upd.tlc))) ?_
    refine TL.nil ?_
    refine TX.thenN rfl rfl ?_
    refine TC.seq ?_
    refine TC.region ?_
    refine TL.p (EvP.move rfl) ?_
    refine TL.r (EvR.loadN (vs := [_, _, _]) rfl Tryd.isAgg78 Tryd.sizeOf78 (AtB.own (by repeat (first | exact Has.hd | refine Has.tlb ?_ | refine Has.tlc ?_))) (by exact ⟨rfl, rfl, rfl,  trivial⟩)) ?_
    refine TL.yield (A := J (i + 1)) (B := Jx) (G := fun R2 => [[(b4, Obj.cells e.enc.toArray 78 (0, 0))]] ++ ([[(b1, .cells [.slice a xs.length c].toArray 71 (0, 0))], D] ++ R2)) rfl rfl rfl (fun w hs => hy i [e.v] (by rw [List.getElem?_map, hx]; rfl) Rj w [[(b4, Obj.cells e.enc.toArray 78 (0, 0))]] hJ hs) (fun R2 hR2 => ?_) (fun R2 hR2 => ?_)
    · refine TL.p (EvP.not rfl) ?_
      refine TL.nil ?_
      refine TX.thenN rfl rfl ?_
      refine TC.cfalse rfl ?_
      refine TC.skip ?_
      refine TX.blkN ?_
      refine TX.thenN rfl rfl ?_
      refine TC.region ?_
      refine TL.p (EvP.add rfl rfl (by omega)) ?_
      refine TL.p (EvP.move rfl) ?_
      refine TL.nil ?_
      refine TX.back ((i + 1, R2)) (⟨by omega, hR2⟩) (by simp only; omega) ⟨rfl, rfl, rfl, rfl, rfl, trivial⟩ (by repeat (first | exact Le.refl _ | exact Le.nil _ | refine Le.hit ?_ | refine Le.hit1 ?_ | refine Le.hit2 ?_ | refine Le.hit3 ?_ | refine Le.hit4 ?_ | refine Le.hit5 ?_ | refine Le.hit6 ?_ | refine Le.hit7 ?_ | refine Le.hit8 ?_ | refine Le.hit9 ?_ | refine Le.hit10 ?_ | refine Le.skip ?_))
    · refine TL.p (EvP.not rfl) ?_
      refine TL.nil ?_
      refine TX.thenN rfl rfl ?_
      refine TC.ctrue rfl ?_
      refine TC.ret ?_
      refine TX.blkR ?_
      refine TX.thenR ?_
      refine TX.thenR ?_
      refine TX.blkR ?_
      refine TX.done rfl (Res.none rfl) (fun w hs => ⟨rfl, R2, .inr hR2, hs.le (by simp only [List.cons_append, List.nil_append]; repeat (first | exact Le.refl _ | exact Le.nil _ | refine Le.hit ?_ | refine Le.hit1 ?_ | refine Le.hit2 ?_ | refine Le.hit3 ?_ | refine Le.hit4 ?_ | refine Le.hit5 ?_ | refine Le.hit6 ?_ | refine Le.hit7 ?_ | refine Le.hit8 ?_ | refine Le.hit9 ?_ | refine Le.hit10 ?_ | refine Le.skip ?_))⟩)
  · refine TL.nil ?_
    refine TX.thenN rfl rfl ?_
    refine TC.seq ?_
    refine TC.cfalse rfl ?_
    refine TC.exit ?_
    refine TX.thenE ?_
    refine TX.thenE ?_
    refine TX.blkH ?_
    have hi3 : i = xs.length := by omega
    refine TX.doneN rfl (Res.none rfl) (fun w hs => ⟨rfl, Rj, .inl ?_, hs.le (by simp only [List.cons_append, List.nil_append]; repeat (first | exact Le.refl _ | exact Le.nil _ | refine Le.hit ?_ | refine Le.hit1 ?_ | refine Le.hit2 ?_ | refine Le.hit3 ?_ | refine Le.hit4 ?_ | refine Le.hit5 ?_ | refine Le.hit6 ?_ | refine Le.hit7 ?_ | refine Le.hit8 ?_ | refine Le.hit9 ?_ | refine Le.hit10 ?_ | refine Le.skip ?_))⟩)
    rw [List.length_map, ← hi3]; exact hJ

theorem die_spec {w0 w : World} {R : List Chunk} {b12 ma b18 clk : Nat} {es : List (Ent Int)} {al : List Int} {ds : List Dth} {X D E : Chunk} {v : Value} {xs : List Cl} (p : Int) (hM : MOk es al) (hX : DB b18 36 48 ds X D E) (he : Els (fun w => St w0 w (E :: R)) v 3 Cl.enc 57 xs) (hsz : xs.length ≤ 4398046511000) (hdl : ds.length ≤ 1099511627776) (hst : St w0 w ([(b12, .cells [.map (some ma)].toArray 69 (0, 0))] :: [(ma, mapObj kI (es) clk)] :: X :: D :: E :: R)) : Calls Tryd.prog 39 #[.int .i64 p, v, .pointer (some ⟨b12, 0, none⟩), .pointer (some ⟨b18, 0, none⟩)] w (Post w0 R fun u Hq => ∃ M2 X2 D2 E2 es2, Hq = [[(b12, .cells [.map (some ma)].toArray 69 (0, 0))], M2, X2, D2, E2] ∧ M2 = [(ma, mapObj kI es2 clk)] ∧ MOk es2 (outL al p) ∧ DB b18 36 48 (ds ++ [(p, xs)]) X2 D2 E2 ∧ ∀ x ∈ E, x ∈ E2) := by
  obtain ⟨aX, cX, dvs, rfl, hD, hrel⟩ := hX
  obtain ⟨⟨aR, cR, rfl⟩, _⟩ := id he
  refine calls_of (args := [_, _, _, _]) Tryd.func39 rfl Tryd.ntmps39 hst ?_
  refine TC.seq ?_
  refine TC.region ?_
  refine TL.r (EvR.load rfl Tryd.isAgg69 (AtB.own (by repeat (first | exact Has.hd | refine Has.tlb ?_ | refine Has.tlc ?_))) (by rfl)) ?_
  refine TL.p (EvP.move rfl) ?_
  refine TL.delete0 kR Tryd.runUnderlying69 rfl rfl (by repeat (first | exact Upd.hd | apply Upd.tlb | apply Upd.tlc)) ?_
  refine TL.nil ?_
  refine TX.thenN rfl rfl ?_
  refine TC.drawn (listed := #[false, false, false, false, false, false, false, false]) 8 (fun _ => True) rfl rfl rfl rfl (fun _ _ => trivial) ?_
  refine TR.take 1 rfl (by kernel_rfl) (by kernel_rfl) (by kernel_rfl) (EvP.r (by exact EvP.move rfl)) (l' := #[false, true, false, false, false, false, false, false]) rfl ?_
  refine TR.take 2 rfl (by kernel_rfl) (by kernel_rfl) (by kernel_rfl) (EvP.r (by exact EvP.move rfl)) (l' := #[false, true, true, false, false, false, false, false]) rfl ?_
  refine TR.two (i := 0) (j := 3) (by kernel_rfl) ?_ ?_
  · refine TRi.r rfl (EvR.load rfl Tryd.isAgg36 (AtB.own (by repeat (first | exact Has.hd | refine Has.tlb ?_ | refine Has.tlc ?_))) (by rfl)) (fun _ _ => trivial) (l' := #[true, true, true, false, false, false, false, false]) rfl ?_
    refine TR.one (i := 3) (by kernel_rfl) ?_
    refine TRi.call rfl rfl rfl Tryd.call30 (fun w hs => clone_spec (he.sub (by repeat (first | exact Le.refl _ | exact Le.nil _ | refine Le.hit ?_ | refine Le.hit1 ?_ | refine Le.hit2 ?_ | refine Le.hit3 ?_ | refine Le.hit4 ?_ | refine Le.hit5 ?_ | refine Le.hit6 ?_ | refine Le.hit7 ?_ | refine Le.hit8 ?_ | refine Le.hit9 ?_ | refine Le.hit10 ?_ | refine Le.skip ?_))) hsz hs) (l' := #[true, true, true, true, false, false, false, false]) rfl ?_
    rintro uC _ ⟨CC, rfl, hCC⟩
    obtain ⟨aC, cC, rfl, _, _⟩ := hCC.len
    refine ⟨fun _ _ => trivial, ?_⟩
    refine TR.take 4 rfl (by kernel_rfl) (by kernel_rfl) (by kernel_rfl) (EvP.r (by exact EvP.buildS (is := [0, 1]) (xs := [_, _]) rfl Tryd.runUnderlying48 Tryd.zeroValue48 rfl (.cons Tryd.sizeOf2 (.cons Tryd.sizeOf22 .nil)) rfl rfl rfl)) (l' := #[true, true, true, true, true, false, false, false]) rfl ?_
    refine TR.one (i := 5) (by kernel_rfl) ?_
    refine TRi.w rfl (EvW.lit1 ((⟨p, aC, xs.length, cC⟩ : Dv)) rfl elDe Tryd.underlying36 (by decide) (by decide) encD_ok rfl) (l' := #[true, true, true, true, true, true, false, false]) rfl ?_
    rintro _ _ ⟨D1, hD1, rfl⟩
    refine ⟨fun _ _ => trivial, ?_⟩
    refine TR.one (i := 6) (by kernel_rfl) ?_
    refine TRi.le (Le.hit5 (Le.refl _)) ?_
    refine TRi.w rfl (EvW.append rfl rfl elDe Tryd.underlying36 encD_ok hD (SrcR.sl Tryd.underlying36 encD_ok hD1 (by simp)) (by rw [hrel.1]; simp only [List.length_singleton]; omega) (by decide)) (l' := #[true, true, true, true, true, true, true, false]) rfl ?_
    rintro v2 _ ⟨C3, hC3, rfl⟩
    refine ⟨fun _ _ => trivial, ?_⟩
    refine TR.one (i := 7) (by kernel_rfl) ?_
    refine TRi.u rfl (EvU.store1 rfl rfl Tryd.sizeOf36 (by first | rfl | (apply Sl.one; assumption)) (by repeat (first | exact Has.hd | refine Has.tlb ?_ | refine Has.tlc ?_)) (by repeat (first | exact SetL.here | apply SetL.there)) (by repeat (first | exact Upd.hd | apply Upd.tlb | apply Upd.tlc))) (fun _ _ => trivial) (l' := #[true, true, true, true, true, true, true, true]) rfl ?_
    refine TR.done (by kernel_rfl) ?_
    refine TX.doneN rfl (Res.none rfl) (fun w hs => ?_)
    refine ⟨_, [[(b12, .cells [.map (some ma)].toArray 69 (0, 0))], [(ma, mapObj kI (delE p es) clk)], [(b18, .cells [v2].toArray 36 (0, 0))], C3, CC ++ E], rfl, ⟨_, _, _, _, _, rfl, rfl, hM.del, DB.snoc hrel hC3 hCC, fun x hx => List.mem_append.2 (.inr hx)⟩, hs.le (Le.trans (Le.hit (Le.hit (Le.hit (Le.hit (Le.join (Le.refl _)))))) (by repeat (first | exact Le.refl _ | exact Le.nil _ | refine Le.hit ?_ | refine Le.hit1 ?_ | refine Le.hit2 ?_ | refine Le.hit3 ?_ | refine Le.hit4 ?_ | refine Le.hit5 ?_ | refine Le.hit6 ?_ | refine Le.hit7 ?_ | refine Le.hit8 ?_ | refine Le.hit9 ?_ | refine Le.hit10 ?_ | refine Le.skip ?_)))⟩
  · refine TRi.call rfl rfl rfl Tryd.call30 (fun w hs => clone_spec (he.sub (by repeat (first | exact Le.refl _ | exact Le.nil _ | refine Le.hit ?_ | refine Le.hit1 ?_ | refine Le.hit2 ?_ | refine Le.hit3 ?_ | refine Le.hit4 ?_ | refine Le.hit5 ?_ | refine Le.hit6 ?_ | refine Le.hit7 ?_ | refine Le.hit8 ?_ | refine Le.hit9 ?_ | refine Le.hit10 ?_ | refine Le.skip ?_))) hsz hs) (l' := #[false, true, true, true, false, false, false, false]) rfl ?_
    rintro uC _ ⟨CC, rfl, hCC⟩
    obtain ⟨aC, cC, rfl, _, _⟩ := hCC.len
    refine ⟨fun _ _ => trivial, ?_⟩
    refine TR.take 4 rfl (by kernel_rfl) (by kernel_rfl) (by kernel_rfl) (EvP.r (by exact EvP.buildS (is := [0, 1]) (xs := [_, _]) rfl Tryd.runUnderlying48 Tryd.zeroValue48 rfl (.cons Tryd.sizeOf2 (.cons Tryd.sizeOf22 .nil)) rfl rfl rfl)) (l' := #[false, true, true, true, true, false, false, false]) rfl ?_
    refine TR.two (i := 0) (j := 5) (by kernel_rfl) ?_ ?_
    · refine TRi.r rfl (EvR.load rfl Tryd.isAgg36 (AtB.own (by repeat (first | exact Has.hd | refine Has.tlb ?_ | refine Has.tlc ?_))) (by rfl)) (fun _ _ => trivial) (l' := #[true, true, true, true, true, false, false, false]) rfl ?_
      refine TR.one (i := 5) (by kernel_rfl) ?_
      refine TRi.w rfl (EvW.lit1 ((⟨p, aC, xs.length, cC⟩ : Dv)) rfl elDe Tryd.underlying36 (by decide) (by decide) encD_ok rfl) (l' := #[true, true, true, true, true, true, false, false]) rfl ?_
      rintro _ _ ⟨D4, hD4, rfl⟩
      refine ⟨fun _ _ => trivial, ?_⟩
      refine TR.one (i := 6) (by kernel_rfl) ?_
      refine TRi.le (Le.hit5 (Le.refl _)) ?_
      refine TRi.w rfl (EvW.append rfl rfl elDe Tryd.underlying36 encD_ok hD (SrcR.sl Tryd.underlying36 encD_ok hD4 (by simp)) (by rw [hrel.1]; simp only [List.length_singleton]; omega) (by decide)) (l' := #[true, true, true, true, true, true, true, false]) rfl ?_
      rintro v5 _ ⟨C6, hC6, rfl⟩
      refine ⟨fun _ _ => trivial, ?_⟩
      refine TR.one (i := 7) (by kernel_rfl) ?_
      refine TRi.u rfl (EvU.store1 rfl rfl Tryd.sizeOf36 (by first | rfl | (apply Sl.one; assumption)) (by repeat (first | exact Has.hd | refine Has.tlb ?_ | refine Has.tlc ?_)) (by repeat (first | exact SetL.here | apply SetL.there)) (by repeat (first | exact Upd.hd | apply Upd.tlb | apply Upd.tlc))) (fun _ _ => trivial) (l' := #[true, true, true, true, true, true, true, true]) rfl ?_
      refine TR.done (by kernel_rfl) ?_
      refine TX.doneN rfl (Res.none rfl) (fun w hs => ?_)
      refine ⟨_, [[(b12, .cells [.map (some ma)].toArray 69 (0, 0))], [(ma, mapObj kI (delE p es) clk)], [(b18, .cells [v5].toArray 36 (0, 0))], C6, CC ++ E], rfl, ⟨_, _, _, _, _, rfl, rfl, hM.del, DB.snoc hrel hC6 hCC, fun x hx => List.mem_append.2 (.inr hx)⟩, hs.le (Le.trans (Le.hit (Le.hit (Le.hit (Le.hit (Le.join (Le.refl _)))))) (by repeat (first | exact Le.refl _ | exact Le.nil _ | refine Le.hit ?_ | refine Le.hit1 ?_ | refine Le.hit2 ?_ | refine Le.hit3 ?_ | refine Le.hit4 ?_ | refine Le.hit5 ?_ | refine Le.hit6 ?_ | refine Le.hit7 ?_ | refine Le.hit8 ?_ | refine Le.hit9 ?_ | refine Le.hit10 ?_ | refine Le.skip ?_)))⟩
    · refine TRi.w rfl (EvW.lit1 ((⟨p, aC, xs.length, cC⟩ : Dv)) rfl elDe Tryd.underlying36 (by decide) (by decide) encD_ok rfl) (l' := #[false, true, true, true, true, true, false, false]) rfl ?_
      rintro _ _ ⟨D7, hD7, rfl⟩
      refine ⟨fun _ _ => trivial, ?_⟩
      refine TR.one (i := 0) (by kernel_rfl) ?_
      refine TRi.r rfl (EvR.load rfl Tryd.isAgg36 (AtB.own (by repeat (first | exact Has.hd | refine Has.tlb ?_ | refine Has.tlc ?_))) (by rfl)) (fun _ _ => trivial) (l' := #[true, true, true, true, true, true, false, false]) rfl ?_
      refine TR.one (i := 6) (by kernel_rfl) ?_
      refine TRi.le (Le.hit5 (Le.refl _)) ?_
      refine TRi.w rfl (EvW.append rfl rfl elDe Tryd.underlying36 encD_ok hD (SrcR.sl Tryd.underlying36 encD_ok hD7 (by simp)) (by rw [hrel.1]; simp only [List.length_singleton]; omega) (by decide)) (l' := #[true, true, true, true, true, true, true, false]) rfl ?_
      rintro v8 _ ⟨C9, hC9, rfl⟩
      refine ⟨fun _ _ => trivial, ?_⟩
      refine TR.one (i := 7) (by kernel_rfl) ?_
      refine TRi.u rfl (EvU.store1 rfl rfl Tryd.sizeOf36 (by first | rfl | (apply Sl.one; assumption)) (by repeat (first | exact Has.hd | refine Has.tlb ?_ | refine Has.tlc ?_)) (by repeat (first | exact SetL.here | apply SetL.there)) (by repeat (first | exact Upd.hd | apply Upd.tlb | apply Upd.tlc))) (fun _ _ => trivial) (l' := #[true, true, true, true, true, true, true, true]) rfl ?_
      refine TR.done (by kernel_rfl) ?_
      refine TX.doneN rfl (Res.none rfl) (fun w hs => ?_)
      refine ⟨_, [[(b12, .cells [.map (some ma)].toArray 69 (0, 0))], [(ma, mapObj kI (delE p es) clk)], [(b18, .cells [v8].toArray 36 (0, 0))], C9, CC ++ E], rfl, ⟨_, _, _, _, _, rfl, rfl, hM.del, DB.snoc hrel hC9 hCC, fun x hx => List.mem_append.2 (.inr hx)⟩, hs.le (Le.trans (Le.hit (Le.hit (Le.hit (Le.hit (Le.join (Le.refl _)))))) (by repeat (first | exact Le.refl _ | exact Le.nil _ | refine Le.hit ?_ | refine Le.hit1 ?_ | refine Le.hit2 ?_ | refine Le.hit3 ?_ | refine Le.hit4 ?_ | refine Le.hit5 ?_ | refine Le.hit6 ?_ | refine Le.hit7 ?_ | refine Le.hit8 ?_ | refine Le.hit9 ?_ | refine Le.hit10 ?_ | refine Le.skip ?_)))⟩
end Go.Proofs.YtdbpandamnkpdaaDoor
