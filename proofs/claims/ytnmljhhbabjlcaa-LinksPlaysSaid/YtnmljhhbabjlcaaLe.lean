/-
  The iterators over the bonds.
-/
import Derived.Test.YtnmljhhbabjlcaaLd
set_option linter.unusedSimpArgs false
set_option linter.unusedVariables false
namespace Go.Proofs.Ytnmljhhbabjlcaa
open Go Go.RowKit

/-- How many of the first i bonds pass. -/
def cnt (p : Bond → Bool) (S : List (Int × Bond)) (i : Nat) : Nat := (((S.take i).map (·.2)).filter p).length
theorem take_snoc {α : Type} {l : List α} {i : Nat} {x : α} (h : l[i]? = some x) : l.take (i + 1) = l.take i ++ [x] := by rw [List.take_add_one, h]; rfl
section
variable {p : Bond → Bool} {S : List (Int × Bond)} {i j : Nat} {s : Int × Bond}
theorem cnt_yes (hx : S[i]? = some s) (hp : p s.2 = true) : cnt p S (i + 1) = cnt p S i + 1 := by simp [cnt, take_snoc hx, hp]
theorem cnt_no (hx : S[i]? = some s) (hp : p s.2 = false) : cnt p S (i + 1) = cnt p S i := by simp [cnt, take_snoc hx, hp]
theorem cnt_at (hx : S[i]? = some s) (hp : p s.2 = true) (hj : j = cnt p S i) : (((S.map (·.2)).filter p).map fun b => [b.v])[j]? = some [s.2.v] := by
  have hlt := (List.getElem?_eq_some_iff.1 hx).1
  have e : S = S.take i ++ s :: S.drop (i + 1) := by
    rw [← (List.getElem?_eq_some_iff.1 hx).2, ← List.drop_eq_getElem_cons hlt, List.take_append_drop]
  rw [e, List.map_append, List.filter_append, List.map_append, hj]
  rw [List.getElem?_append_right (by simp [cnt])]
  simp [cnt, hp]
theorem cnt_end (hi : i = S.length) (hj : j = cnt p S i) : (((S.map (·.2)).filter p).map fun b => [b.v]).length = j := by
  subst hi; subst hj; simp [cnt]
end

theorem all_test {w0 w : World} {R : List Chunk} (b : Bond) (hst : St w0 w R) : Calls Try.prog 54 #[b.v] w (Post0 w0 R fun v => v = .bool true) := by
  refine calls_of (args := [_]) Try.func54 rfl Try.ntmps54 hst ?_
  refine TC.seq ?_
  refine TC.region ?_
  refine TL.box rfl rfl (fun b1 => ?_)
  refine TL.p (EvP.assign rfl) ?_
  refine TL.nil ?_
  refine TX.thenN rfl rfl ?_
  refine TC.seq ?_
  refine TC.region ?_
  refine TL.p (EvP.assign rfl) ?_
  refine TL.nil ?_
  refine TX.thenN rfl rfl ?_
  refine TC.ret ?_
  refine TX.done rfl (Res.one rfl rfl) (fun w hs => Post0.mk hs ?_ (by repeat (first | exact Le.refl _ | exact Le.nil _ | refine Le.hit ?_ | refine Le.hit1 ?_ | refine Le.hit2 ?_ | refine Le.hit3 ?_ | refine Le.hit4 ?_ | refine Le.hit5 ?_ | refine Le.hit6 ?_ | refine Le.hit7 ?_ | refine Le.hit8 ?_ | refine Le.hit9 ?_ | refine Le.hit10 ?_ | refine Le.skip ?_)))
  rfl

theorem of_test {w0 w : World} {R : List Chunk} {p : Nat} {pid : Int} (b : Bond) (hst : St w0 w ([(p, .cells [.int .i64 pid].toArray 2 (0, 0))] :: R)) : Calls Try.prog 55 #[b.v, .pointer (some ⟨p, 0, none⟩)] w (Post0 w0 ([(p, .cells [.int .i64 pid].toArray 2 (0, 0))] :: R) fun v => v = .bool (ofP pid b)) := by
  refine calls_of (args := [_, _]) Try.func55 rfl Try.ntmps55 hst ?_
  refine TC.seq ?_
  refine TC.region ?_
  refine TL.box rfl rfl (fun b2 => ?_)
  refine TL.p (EvP.assign rfl) ?_
  refine TL.nil ?_
  refine TX.thenN rfl rfl ?_
  refine TC.seq ?_
  refine TC.region ?_
  refine TL.p (EvP.fa (e := 0) rfl Try.runUnderlying48 rfl Try.sizeOf2 rfl) ?_
  refine TL.r (EvR.load rfl Try.isAgg2 (AtB.own (by repeat (first | exact Has.hd | refine Has.tlb ?_ | refine Has.tlc ?_))) (by rfl)) ?_
  refine TL.r (EvR.load rfl Try.isAgg2 (AtB.own (by repeat (first | exact Has.hd | refine Has.tlb ?_ | refine Has.tlc ?_))) (by rfl)) ?_
  refine TL.dec (EvP.eq rfl rfl) (fun h7 => ?_) (fun h7 => ?_)
  · refine TL.p (EvP.move rfl) ?_
    refine TL.gN rfl rfl rfl ?_
    refine TL.gN rfl rfl rfl ?_
    refine TL.gN rfl rfl rfl ?_
    refine TL.gN rfl rfl rfl ?_
    refine TL.p (EvP.pickT rfl rfl) ?_
    refine TL.p (EvP.assign rfl) ?_
    refine TL.nil ?_
    refine TX.thenN rfl rfl ?_
    refine TC.ret ?_
    refine TX.done rfl (Res.one rfl rfl) (fun w hs => Post0.mk hs ?_ (by repeat (first | exact Le.refl _ | exact Le.nil _ | refine Le.hit ?_ | refine Le.hit1 ?_ | refine Le.hit2 ?_ | refine Le.hit3 ?_ | refine Le.hit4 ?_ | refine Le.hit5 ?_ | refine Le.hit6 ?_ | refine Le.hit7 ?_ | refine Le.hit8 ?_ | refine Le.hit9 ?_ | refine Le.hit10 ?_ | refine Le.skip ?_)))
    simp_all [ofP]
  · refine TL.p (EvP.move rfl) ?_
    refine TL.gY rfl rfl rfl ?_
    refine TL.p (EvP.fa (e := 1) rfl Try.runUnderlying48 rfl Try.sizeOf2 rfl) ?_
    refine TL.gY rfl rfl rfl ?_
    refine TL.r (EvR.load rfl Try.isAgg2 (AtB.own (by repeat (first | exact Has.hd | refine Has.tlb ?_ | refine Has.tlc ?_))) (by rfl)) ?_
    refine TL.gY rfl rfl rfl ?_
    refine TL.r (EvR.load rfl Try.isAgg2 (AtB.own (by repeat (first | exact Has.hd | refine Has.tlb ?_ | refine Has.tlc ?_))) (by rfl)) ?_
    refine TL.gY rfl rfl rfl ?_
    refine TL.p (EvP.eq rfl rfl) ?_
    refine TL.p (EvP.pickF rfl rfl) ?_
    refine TL.p (EvP.assign rfl) ?_
    refine TL.nil ?_
    refine TX.thenN rfl rfl ?_
    refine TC.ret ?_
    refine TX.done rfl (Res.one rfl rfl) (fun w hs => Post0.mk hs ?_ (by repeat (first | exact Le.refl _ | exact Le.nil _ | refine Le.hit ?_ | refine Le.hit1 ?_ | refine Le.hit2 ?_ | refine Le.hit3 ?_ | refine Le.hit4 ?_ | refine Le.hit5 ?_ | refine Le.hit6 ?_ | refine Le.hit7 ?_ | refine Le.hit8 ?_ | refine Le.hit9 ?_ | refine Le.hit10 ?_ | refine Le.skip ?_)))
    simp_all [ofP]

theorem some_all {w0 w : World} {R : List Chunk} {gp : Option Addr} (hst : St w0 w R) : Calls Try.prog 53 #[.pointer gp, .func (.func 54) #[] #[]] w (Post2 w0 R fun v C D => ∃ b1 b2, v = .func (.func 59) #[] #[.pointer (some ⟨b1, 0, none⟩), .pointer (some ⟨b2, 0, none⟩)] ∧ C = [(b1, .cells [.pointer gp].toArray 24 (0, 0))] ∧ D = [(b2, .cells [.func (.func 54) #[] #[]].toArray 83 (0, 0))]) := by
  refine calls_of (args := [_, _]) Try.func53 rfl Try.ntmps53 hst ?_
  refine TC.seq ?_
  refine TC.region ?_
  refine TL.box rfl rfl (fun b2 => ?_)
  refine TL.box rfl rfl (fun b3 => ?_)
  refine TL.p (EvP.assign rfl) ?_
  refine TL.nil ?_
  refine TX.thenN rfl rfl ?_
  refine TC.seq ?_
  refine TC.region ?_
  refine TL.p (EvP.makeFunc rfl rfl) ?_
  refine TL.p (EvP.assign rfl) ?_
  refine TL.nil ?_
  refine TX.thenN rfl rfl ?_
  refine TC.ret ?_
  refine TX.done rfl (Res.one rfl rfl) (fun w hs => Post2.mk (C := [(b2, .cells [.pointer gp].toArray 24 (0, 0))]) (D := [(b3, .cells [.func (.func 54) #[] #[]].toArray 83 (0, 0))]) hs ?_ (by repeat (first | exact Le.refl _ | exact Le.nil _ | refine Le.hit ?_ | refine Le.hit1 ?_ | refine Le.hit2 ?_ | refine Le.hit3 ?_ | refine Le.hit4 ?_ | refine Le.hit5 ?_ | refine Le.hit6 ?_ | refine Le.hit7 ?_ | refine Le.hit8 ?_ | refine Le.hit9 ?_ | refine Le.hit10 ?_ | refine Le.skip ?_)))
  exact ⟨b2, b3, rfl, rfl, rfl⟩

theorem some_of {w0 w : World} {R : List Chunk} {gp : Option Addr} {p : Nat} (hst : St w0 w R) : Calls Try.prog 53 #[.pointer gp, .func (.func 55) #[] #[.pointer (some ⟨p, 0, none⟩)]] w (Post2 w0 R fun v C D => ∃ b1 b2, v = .func (.func 59) #[] #[.pointer (some ⟨b1, 0, none⟩), .pointer (some ⟨b2, 0, none⟩)] ∧ C = [(b1, .cells [.pointer gp].toArray 24 (0, 0))] ∧ D = [(b2, .cells [.func (.func 55) #[] #[.pointer (some ⟨p, 0, none⟩)]].toArray 83 (0, 0))]) := by
  refine calls_of (args := [_, _]) Try.func53 rfl Try.ntmps53 hst ?_
  refine TC.seq ?_
  refine TC.region ?_
  refine TL.box rfl rfl (fun b2 => ?_)
  refine TL.box rfl rfl (fun b3 => ?_)
  refine TL.p (EvP.assign rfl) ?_
  refine TL.nil ?_
  refine TX.thenN rfl rfl ?_
  refine TC.seq ?_
  refine TC.region ?_
  refine TL.p (EvP.makeFunc rfl rfl) ?_
  refine TL.p (EvP.assign rfl) ?_
  refine TL.nil ?_
  refine TX.thenN rfl rfl ?_
  refine TC.ret ?_
  refine TX.done rfl (Res.one rfl rfl) (fun w hs => Post2.mk (C := [(b2, .cells [.pointer gp].toArray 24 (0, 0))]) (D := [(b3, .cells [.func (.func 55) #[] #[.pointer (some ⟨p, 0, none⟩)]].toArray 83 (0, 0))]) hs ?_ (by repeat (first | exact Le.refl _ | exact Le.nil _ | refine Le.hit ?_ | refine Le.hit1 ?_ | refine Le.hit2 ?_ | refine Le.hit3 ?_ | refine Le.hit4 ?_ | refine Le.hit5 ?_ | refine Le.hit6 ?_ | refine Le.hit7 ?_ | refine Le.hit8 ?_ | refine Le.hit9 ?_ | refine Le.hit10 ?_ | refine Le.skip ?_)))
  exact ⟨b2, b3, rfl, rfl, rfl⟩

theorem All_spec {w0 w : World} {R : List Chunk} {gp : Option Addr} (hst : St w0 w R) : Calls Try.prog 40 #[.pointer gp] w (Post2 w0 R fun v C D => ∃ b1 b2, v = .func (.func 59) #[] #[.pointer (some ⟨b1, 0, none⟩), .pointer (some ⟨b2, 0, none⟩)] ∧ C = [(b1, .cells [.pointer gp].toArray 24 (0, 0))] ∧ D = [(b2, .cells [.func (.func 54) #[] #[]].toArray 83 (0, 0))]) := by
  refine calls_of (args := [_]) Try.func40 rfl Try.ntmps40 hst ?_
  refine TC.seq ?_
  refine TC.region ?_
  refine TL.p (EvP.assign rfl) ?_
  refine TL.nil ?_
  refine TX.thenN rfl rfl ?_
  refine TC.seq ?_
  refine TC.region ?_
  refine TL.p (EvP.move rfl) ?_
  refine TL.callC rfl rfl Try.call53 (fun w hs => some_all hs) ?_
  rintro _ _ _ ⟨b1, b2, rfl, rfl, rfl⟩
  refine TL.p (EvP.assign rfl) ?_
  refine TL.nil ?_
  refine TX.thenN rfl rfl ?_
  refine TC.ret ?_
  refine TX.done rfl (Res.one rfl rfl) (fun w hs => Post2.mk (C := _) (D := _) hs ?_ (by repeat (first | exact Le.refl _ | exact Le.nil _ | refine Le.hit ?_ | refine Le.hit1 ?_ | refine Le.hit2 ?_ | refine Le.hit3 ?_ | refine Le.hit4 ?_ | refine Le.hit5 ?_ | refine Le.hit6 ?_ | refine Le.hit7 ?_ | refine Le.hit8 ?_ | refine Le.hit9 ?_ | refine Le.hit10 ?_ | refine Le.skip ?_)))
  exact ⟨b1, b2, rfl, rfl, rfl⟩

theorem Of_spec {w0 w : World} {R : List Chunk} {gp : Option Addr} {pid : Int} (hst : St w0 w R) : Calls Try.prog 43 #[.pointer gp, .int .i64 pid] w (Post3 w0 R fun v C D E => ∃ b1 b2 p, v = .func (.func 59) #[] #[.pointer (some ⟨b1, 0, none⟩), .pointer (some ⟨b2, 0, none⟩)] ∧ C = [(b1, .cells [.pointer gp].toArray 24 (0, 0))] ∧ D = [(b2, .cells [.func (.func 55) #[] #[.pointer (some ⟨p, 0, none⟩)]].toArray 83 (0, 0))] ∧ E = [(p, .cells [.int .i64 pid].toArray 2 (0, 0))]) := by
  refine calls_of (args := [_, _]) Try.func43 rfl Try.ntmps43 hst ?_
  refine TC.seq ?_
  refine TC.region ?_
  refine TL.box rfl rfl (fun b3 => ?_)
  refine TL.p (EvP.assign rfl) ?_
  refine TL.nil ?_
  refine TX.thenN rfl rfl ?_
  refine TC.seq ?_
  refine TC.region ?_
  refine TL.p (EvP.move rfl) ?_
  refine TL.p (EvP.makeFunc rfl rfl) ?_
  refine TL.callC rfl rfl Try.call53 (fun w hs => some_of hs) ?_
  rintro _ _ _ ⟨b1, b2, rfl, rfl, rfl⟩
  refine TL.p (EvP.assign rfl) ?_
  refine TL.nil ?_
  refine TX.thenN rfl rfl ?_
  refine TC.ret ?_
  refine TX.done rfl (Res.one rfl rfl) (fun w hs => Post3.mk hs ?_ (by repeat (first | exact Le.refl _ | exact Le.nil _ | refine Le.hit ?_ | refine Le.hit1 ?_ | refine Le.hit2 ?_ | refine Le.hit3 ?_ | refine Le.hit4 ?_ | refine Le.hit5 ?_ | refine Le.hit6 ?_ | refine Le.hit7 ?_ | refine Le.hit8 ?_ | refine Le.hit9 ?_ | refine Le.hit10 ?_ | refine Le.skip ?_)))
  exact ⟨b1, b2, b3, rfl, rfl, rfl, rfl⟩

theorem iter_all {g mb ml mr b1 b2 : Nat} {n : Int} {eb : List (Ent Int)} {cb : Nat} {el : List (Ent (Int × Int))} {cl : Nat} {er : List (Ent Int)} {cr : Nat} {S : List (Int × Bond)} (hg : GOk S n eb cb el er) : Iter Try.prog 59 [.pointer (some ⟨b1, 0, none⟩), .pointer (some ⟨b2, 0, none⟩)] [[(b1, .cells [.pointer (some ⟨g, 0, none⟩)].toArray 24 (0, 0))], [(b2, .cells [.func (.func 54) #[] #[]].toArray 83 (0, 0))], [(g, .cells [.map (some mb), .int .i64 n, .map (some ml), .map (some mr)].toArray 65 (0, 0))], [(mb, mapObj kI eb cb)], [(ml, mapObj kP el cl)], [(mr, mapObj kI er cr)]] (((S.map (·.2)).filter (fun _ => true)).map fun b => [b.v]) := by
  intro w0 l J Jx hy R w hJ0 hst
  refine calls_of (args := [_, _, _]) Try.func59 rfl Try.ntmps59 hst ?_
  refine TC.seq ?_
  refine TC.region ?_
  refine TL.r (EvR.load rfl Try.isAgg24 (AtB.own (by repeat (first | exact Has.hd | refine Has.tlb ?_ | refine Has.tlc ?_))) (by rfl)) ?_
  refine TL.le (Le.hit2 (Le.hit2 (Le.hit2 (Le.hit2 (Le.refl _))))) ?_
  refine TL.callB rfl rfl Try.call41 (fun w hs => order_raw hg hs) ?_
  rintro vN Cn hvN
  obtain ⟨_, _, hq, _, _⟩ := hvN.len
  have hlenN : ∃ a cap, vN = .slice a S.length cap := ⟨_, _, by rw [hq, List.length_map]⟩
  clear hq
  obtain ⟨aN, capN, rfl⟩ := hlenN
  refine TL.p (EvP.lenS Try.runUnderlying50 rfl) ?_
  refine TL.p (EvP.move rfl) ?_
  refine TL.nil ?_
  refine TX.thenN rfl rfl ?_
  refine TC.block ?_
  refine TC.loop (ι := Nat × Nat × List Chunk) (fun (i, j, Rj) => [(0, .func (.yield l) #[] #[]), (1, .pointer (some ⟨b1, 0, none⟩)), (2, .pointer (some ⟨b2, 0, none⟩)), (8, .slice aN S.length capN), (9, .int .i64 S.length), (10, .int .i64 i)]) (fun (i, j, Rj) => Cn :: ([[(b1, .cells [.pointer (some ⟨g, 0, none⟩)].toArray 24 (0, 0))], [(b2, .cells [.func (.func 54) #[] #[]].toArray 83 (0, 0))], [(g, .cells [.map (some mb), .int .i64 n, .map (some ml), .map (some mr)].toArray 65 (0, 0))], [(mb, mapObj kI eb cb)], [(ml, mapObj kP el cl)], [(mr, mapObj kI er cr)]] ++ Rj)) (fun (i, j, Rj) => i ≤ S.length ∧ j = cnt (fun _ => true) S i ∧ J j Rj) (fun (i, j, Rj) => S.length - i) ((0, 0, R)) (⟨Nat.zero_le _, rfl, hJ0⟩) ⟨rfl, rfl, rfl, rfl, rfl, rfl, trivial⟩ (by repeat (first | exact Le.refl _ | exact Le.nil _ | refine Le.hit ?_ | refine Le.hit1 ?_ | refine Le.hit2 ?_ | refine Le.hit3 ?_ | refine Le.hit4 ?_ | refine Le.hit5 ?_ | refine Le.hit6 ?_ | refine Le.hit7 ?_ | refine Le.hit8 ?_ | refine Le.hit9 ?_ | refine Le.hit10 ?_ | refine Le.skip ?_)) ?_
  rintro ⟨i, j, Rj⟩ ⟨hi, hj, hJ⟩
  change TC _ _ [(0, .func (.yield l) #[] #[]), (1, .pointer (some ⟨b1, 0, none⟩)), (2, .pointer (some ⟨b2, 0, none⟩)), (8, .slice aN S.length capN), (9, .int .i64 S.length), (10, .int .i64 i)] (Cn :: ([[(b1, .cells [.pointer (some ⟨g, 0, none⟩)].toArray 24 (0, 0))], [(b2, .cells [.func (.func 54) #[] #[]].toArray 83 (0, 0))], [(g, .cells [.map (some mb), .int .i64 n, .map (some ml), .map (some mr)].toArray 65 (0, 0))], [(mb, mapObj kI eb cb)], [(ml, mapObj kP el cl)], [(mr, mapObj kI er cr)]] ++ Rj)) _
  have hsm := hg.ok.len
  simp only [List.length_map] at hsm
  refine TC.seq ?_
  refine TC.region ?_
  refine TL.dec (EvP.lt rfl rfl) (fun h11 => ?_) (fun h11 => ?_)
  · refine TL.nil ?_
    refine TX.thenN rfl rfl ?_
    refine TC.seq ?_
    refine TC.ctrue rfl ?_
    refine TC.skip ?_
    refine TX.thenN rfl rfl ?_
    refine TC.seq ?_
    refine TC.block ?_
    refine TC.seq ?_
    refine TC.region ?_
    have hi2 : i < S.length := by omega
    obtain ⟨s, hx⟩ : ∃ s, S[i]? = some s := ⟨_, List.getElem?_eq_getElem hi2⟩
    have hs0 := List.mem_of_getElem? hx
    refine TL.elem (hvN.el encI_ok (j := i) (x := s.1) (by rw [List.getElem?_map, hx]; rfl) (by simp)) Try.runUnderlying50 Try.sizeOf2 rfl rfl (fun bE oE lE _ _ hE hcE => ?_)
    refine TL.r (EvR.load rfl Try.isAgg2 hE hcE.1) ?_
    refine TL.p (EvP.assign rfl) ?_
    refine TL.nil ?_
    refine TX.thenN rfl rfl ?_
    refine TC.seq ?_
    refine TC.region ?_
    refine TL.r (EvR.load rfl Try.isAgg24 (AtB.own (by repeat (first | exact Has.hd | refine Has.tlb ?_ | refine Has.tlc ?_))) (by rfl)) ?_
    refine TL.p (EvP.nilP rfl) ?_
    refine TL.p (EvP.fa (e := 0) rfl Try.runUnderlying65 rfl Try.sizeOf61 rfl) ?_
    refine TL.r (EvR.load rfl Try.isAgg61 (AtB.own (by repeat (first | exact Has.hd | refine Has.tlb ?_ | refine Has.tlc ?_))) (by rfl)) ?_
    refine TL.p (EvP.move rfl) ?_
    refine TL.r (EvR.lookupY kB Try.runUnderlying61 Try.zeroValue48 (hg.valb hs0) rfl rfl (AtB.own (by repeat (first | exact Has.hd | refine Has.tlb ?_ | refine Has.tlc ?_)))) ?_
    refine TL.alloc Try.zeroValue48 rfl (fun b6 => ?_)
    refine TL.u (EvU.store rfl rfl Try.sizeOf48 rfl rfl rfl rfl (by repeat (first | exact Has.hd | refine Has.tlb ?_ | refine Has.tlc ?_)) (by repeat (first | exact SetLs.nil | exact SetL.here | apply SetLs.cons | apply SetL.there)) (by repeat (first | exact Upd.hd | apply Upd.tlb | apply Upd.tlc))) ?_
    refine TL.nil ?_
    refine TX.thenN rfl rfl ?_
    refine TC.seq ?_
    refine TC.region ?_
    refine TL.r (EvR.load rfl Try.isAgg83 (AtB.own (by repeat (first | exact Has.hd | refine Has.tlb ?_ | refine Has.tlc ?_))) (by rfl)) ?_
    refine TL.r (EvR.loadN (vs := [_, _, _]) rfl Try.isAgg48 Try.sizeOf48 (AtB.own (by repeat (first | exact Has.hd | refine Has.tlb ?_ | refine Has.tlc ?_))) (by exact ⟨rfl, rfl, rfl,  trivial⟩)) ?_
    refine TL.callA rfl rfl Try.call54 (fun w hs => all_test s.2 hs) ?_
    rintro _ rfl
    have hp : (fun _ => true : Bond → Bool) s.2 = true := rfl
    refine TL.p (EvP.move rfl) ?_
    refine TL.gY rfl rfl rfl ?_
    refine TL.p (EvP.move rfl) ?_
    refine TL.gY rfl rfl rfl ?_
    refine TL.r (EvR.loadN (vs := [_, _, _]) rfl Try.isAgg48 Try.sizeOf48 (AtB.own (by repeat (first | exact Has.hd | refine Has.tlb ?_ | refine Has.tlc ?_))) (by exact ⟨rfl, rfl, rfl,  trivial⟩)) ?_
    refine TL.gY rfl rfl rfl ?_
    refine TL.yield (A := J (j + 1)) (B := Jx) (G := fun R2 => [[(b6, .cells s.2.enc.toArray 48 (0, 0))], Cn] ++ ([[(b1, .cells [.pointer (some ⟨g, 0, none⟩)].toArray 24 (0, 0))], [(b2, .cells [.func (.func 54) #[] #[]].toArray 83 (0, 0))], [(g, .cells [.map (some mb), .int .i64 n, .map (some ml), .map (some mr)].toArray 65 (0, 0))], [(mb, mapObj kI eb cb)], [(ml, mapObj kP el cl)], [(mr, mapObj kI er cr)]] ++ R2)) rfl rfl rfl (fun w hs => hy j [s.2.v] (cnt_at hx hp hj) Rj w [[(b6, .cells s.2.enc.toArray 48 (0, 0))], Cn] hJ hs) (fun R2 hR2 => ?_) (fun R2 hR2 => ?_)
    · refine TL.gY rfl rfl rfl ?_
      refine TL.p (EvP.not rfl) ?_
      refine TL.p (EvP.pickT rfl rfl) ?_
      refine TL.nil ?_
      refine TX.thenN rfl rfl ?_
      refine TC.cfalse rfl ?_
      refine TC.skip ?_
      refine TX.blkN ?_
      refine TX.thenN rfl rfl ?_
      refine TC.region ?_
      refine TL.p (EvP.add rfl rfl (by omega)) ?_
      refine TL.p (EvP.move rfl) ?_
      refine TL.nil ?_
      refine TX.back ((i + 1, (j + 1), R2)) (⟨by omega, by rw [cnt_yes hx hp, hj], hR2⟩) (by simp only; omega) ⟨rfl, rfl, rfl, rfl, rfl, rfl, trivial⟩ (by repeat (first | exact Le.refl _ | exact Le.nil _ | refine Le.hit ?_ | refine Le.hit1 ?_ | refine Le.hit2 ?_ | refine Le.hit3 ?_ | refine Le.hit4 ?_ | refine Le.hit5 ?_ | refine Le.hit6 ?_ | refine Le.hit7 ?_ | refine Le.hit8 ?_ | refine Le.hit9 ?_ | refine Le.hit10 ?_ | refine Le.skip ?_))
    · refine TL.gY rfl rfl rfl ?_
      refine TL.p (EvP.not rfl) ?_
      refine TL.p (EvP.pickT rfl rfl) ?_
      refine TL.nil ?_
      refine TX.thenN rfl rfl ?_
      refine TC.ctrue rfl ?_
      refine TC.ret ?_
      refine TX.blkR ?_
      refine TX.thenR ?_
      refine TX.thenR ?_
      refine TX.blkR ?_
      refine TX.done rfl (Res.none rfl) (fun w hs => ⟨rfl, R2, .inr hR2, hs.le (by repeat (first | exact Le.refl _ | exact Le.nil _ | refine Le.hit ?_ | refine Le.hit1 ?_ | refine Le.hit2 ?_ | refine Le.hit3 ?_ | refine Le.hit4 ?_ | refine Le.hit5 ?_ | refine Le.hit6 ?_ | refine Le.hit7 ?_ | refine Le.hit8 ?_ | refine Le.hit9 ?_ | refine Le.hit10 ?_ | refine Le.skip ?_))⟩)
  · refine TL.nil ?_
    refine TX.thenN rfl rfl ?_
    refine TC.seq ?_
    refine TC.cfalse rfl ?_
    refine TC.exit ?_
    refine TX.thenE ?_
    refine TX.thenE ?_
    refine TX.blkH ?_
    have hi3 : i = S.length := by omega
    refine TX.doneN rfl (Res.none rfl) (fun w hs => ⟨rfl, Rj, .inl ?_, hs.le (by repeat (first | exact Le.refl _ | exact Le.nil _ | refine Le.hit ?_ | refine Le.hit1 ?_ | refine Le.hit2 ?_ | refine Le.hit3 ?_ | refine Le.hit4 ?_ | refine Le.hit5 ?_ | refine Le.hit6 ?_ | refine Le.hit7 ?_ | refine Le.hit8 ?_ | refine Le.hit9 ?_ | refine Le.hit10 ?_ | refine Le.skip ?_))⟩)
    rw [cnt_end hi3 hj]; exact hJ

theorem iter_of {g mb ml mr b1 b2 p : Nat} {n : Int} {eb : List (Ent Int)} {cb : Nat} {el : List (Ent (Int × Int))} {cl : Nat} {er : List (Ent Int)} {cr : Nat} {pid : Int} {S : List (Int × Bond)} (hg : GOk S n eb cb el er) : Iter Try.prog 59 [.pointer (some ⟨b1, 0, none⟩), .pointer (some ⟨b2, 0, none⟩)] [[(b1, .cells [.pointer (some ⟨g, 0, none⟩)].toArray 24 (0, 0))], [(b2, .cells [.func (.func 55) #[] #[.pointer (some ⟨p, 0, none⟩)]].toArray 83 (0, 0))], [(p, .cells [.int .i64 pid].toArray 2 (0, 0))], [(g, .cells [.map (some mb), .int .i64 n, .map (some ml), .map (some mr)].toArray 65 (0, 0))], [(mb, mapObj kI eb cb)], [(ml, mapObj kP el cl)], [(mr, mapObj kI er cr)]] (((S.map (·.2)).filter (ofP pid)).map fun b => [b.v]) := by
  intro w0 l J Jx hy R w hJ0 hst
  refine calls_of (args := [_, _, _]) Try.func59 rfl Try.ntmps59 hst ?_
  refine TC.seq ?_
  refine TC.region ?_
  refine TL.r (EvR.load rfl Try.isAgg24 (AtB.own (by repeat (first | exact Has.hd | refine Has.tlb ?_ | refine Has.tlc ?_))) (by rfl)) ?_
  refine TL.le (Le.hit3 (Le.hit3 (Le.hit3 (Le.hit3 (Le.refl _))))) ?_
  refine TL.callB rfl rfl Try.call41 (fun w hs => order_raw hg hs) ?_
  rintro vN Cn hvN
  obtain ⟨_, _, hq, _, _⟩ := hvN.len
  have hlenN : ∃ a cap, vN = .slice a S.length cap := ⟨_, _, by rw [hq, List.length_map]⟩
  clear hq
  obtain ⟨aN, capN, rfl⟩ := hlenN
  refine TL.p (EvP.lenS Try.runUnderlying50 rfl) ?_
  refine TL.p (EvP.move rfl) ?_
  refine TL.nil ?_
  refine TX.thenN rfl rfl ?_
  refine TC.block ?_
  refine TC.loop (ι := Nat × Nat × List Chunk) (fun (i, j, Rj) => [(0, .func (.yield l) #[] #[]), (1, .pointer (some ⟨b1, 0, none⟩)), (2, .pointer (some ⟨b2, 0, none⟩)), (8, .slice aN S.length capN), (9, .int .i64 S.length), (10, .int .i64 i)]) (fun (i, j, Rj) => Cn :: ([[(b1, .cells [.pointer (some ⟨g, 0, none⟩)].toArray 24 (0, 0))], [(b2, .cells [.func (.func 55) #[] #[.pointer (some ⟨p, 0, none⟩)]].toArray 83 (0, 0))], [(p, .cells [.int .i64 pid].toArray 2 (0, 0))], [(g, .cells [.map (some mb), .int .i64 n, .map (some ml), .map (some mr)].toArray 65 (0, 0))], [(mb, mapObj kI eb cb)], [(ml, mapObj kP el cl)], [(mr, mapObj kI er cr)]] ++ Rj)) (fun (i, j, Rj) => i ≤ S.length ∧ j = cnt (ofP pid) S i ∧ J j Rj) (fun (i, j, Rj) => S.length - i) ((0, 0, R)) (⟨Nat.zero_le _, rfl, hJ0⟩) ⟨rfl, rfl, rfl, rfl, rfl, rfl, trivial⟩ (by repeat (first | exact Le.refl _ | exact Le.nil _ | refine Le.hit ?_ | refine Le.hit1 ?_ | refine Le.hit2 ?_ | refine Le.hit3 ?_ | refine Le.hit4 ?_ | refine Le.hit5 ?_ | refine Le.hit6 ?_ | refine Le.hit7 ?_ | refine Le.hit8 ?_ | refine Le.hit9 ?_ | refine Le.hit10 ?_ | refine Le.skip ?_)) ?_
  rintro ⟨i, j, Rj⟩ ⟨hi, hj, hJ⟩
  change TC _ _ [(0, .func (.yield l) #[] #[]), (1, .pointer (some ⟨b1, 0, none⟩)), (2, .pointer (some ⟨b2, 0, none⟩)), (8, .slice aN S.length capN), (9, .int .i64 S.length), (10, .int .i64 i)] (Cn :: ([[(b1, .cells [.pointer (some ⟨g, 0, none⟩)].toArray 24 (0, 0))], [(b2, .cells [.func (.func 55) #[] #[.pointer (some ⟨p, 0, none⟩)]].toArray 83 (0, 0))], [(p, .cells [.int .i64 pid].toArray 2 (0, 0))], [(g, .cells [.map (some mb), .int .i64 n, .map (some ml), .map (some mr)].toArray 65 (0, 0))], [(mb, mapObj kI eb cb)], [(ml, mapObj kP el cl)], [(mr, mapObj kI er cr)]] ++ Rj)) _
  have hsm := hg.ok.len
  simp only [List.length_map] at hsm
  refine TC.seq ?_
  refine TC.region ?_
  refine TL.dec (EvP.lt rfl rfl) (fun h11 => ?_) (fun h11 => ?_)
  · refine TL.nil ?_
    refine TX.thenN rfl rfl ?_
    refine TC.seq ?_
    refine TC.ctrue rfl ?_
    refine TC.skip ?_
    refine TX.thenN rfl rfl ?_
    refine TC.seq ?_
    refine TC.block ?_
    refine TC.seq ?_
    refine TC.region ?_
    have hi2 : i < S.length := by omega
    obtain ⟨s, hx⟩ : ∃ s, S[i]? = some s := ⟨_, List.getElem?_eq_getElem hi2⟩
    have hs0 := List.mem_of_getElem? hx
    refine TL.elem (hvN.el encI_ok (j := i) (x := s.1) (by rw [List.getElem?_map, hx]; rfl) (by simp)) Try.runUnderlying50 Try.sizeOf2 rfl rfl (fun bE oE lE _ _ hE hcE => ?_)
    refine TL.r (EvR.load rfl Try.isAgg2 hE hcE.1) ?_
    refine TL.p (EvP.assign rfl) ?_
    refine TL.nil ?_
    refine TX.thenN rfl rfl ?_
    refine TC.seq ?_
    refine TC.region ?_
    refine TL.r (EvR.load rfl Try.isAgg24 (AtB.own (by repeat (first | exact Has.hd | refine Has.tlb ?_ | refine Has.tlc ?_))) (by rfl)) ?_
    refine TL.p (EvP.nilP rfl) ?_
    refine TL.p (EvP.fa (e := 0) rfl Try.runUnderlying65 rfl Try.sizeOf61 rfl) ?_
    refine TL.r (EvR.load rfl Try.isAgg61 (AtB.own (by repeat (first | exact Has.hd | refine Has.tlb ?_ | refine Has.tlc ?_))) (by rfl)) ?_
    refine TL.p (EvP.move rfl) ?_
    refine TL.r (EvR.lookupY kB Try.runUnderlying61 Try.zeroValue48 (hg.valb hs0) rfl rfl (AtB.own (by repeat (first | exact Has.hd | refine Has.tlb ?_ | refine Has.tlc ?_)))) ?_
    refine TL.alloc Try.zeroValue48 rfl (fun b6 => ?_)
    refine TL.u (EvU.store rfl rfl Try.sizeOf48 rfl rfl rfl rfl (by repeat (first | exact Has.hd | refine Has.tlb ?_ | refine Has.tlc ?_)) (by repeat (first | exact SetLs.nil | exact SetL.here | apply SetLs.cons | apply SetL.there)) (by repeat (first | exact Upd.hd | apply Upd.tlb | apply Upd.tlc))) ?_
    refine TL.nil ?_
    refine TX.thenN rfl rfl ?_
    refine TC.seq ?_
    refine TC.region ?_
    refine TL.r (EvR.load rfl Try.isAgg83 (AtB.own (by repeat (first | exact Has.hd | refine Has.tlb ?_ | refine Has.tlc ?_))) (by rfl)) ?_
    refine TL.r (EvR.loadN (vs := [_, _, _]) rfl Try.isAgg48 Try.sizeOf48 (AtB.own (by repeat (first | exact Has.hd | refine Has.tlb ?_ | refine Has.tlc ?_))) (by exact ⟨rfl, rfl, rfl,  trivial⟩)) ?_
    refine TL.le (Le.hit4 (Le.refl _)) ?_
    refine TL.callA rfl rfl Try.call55 (fun w hs => of_test s.2 hs) ?_
    rintro _ rfl
    refine TL.bsplit 22 rfl (fun hp => ?_) (fun hp => ?_)
    · refine TL.p (EvP.move rfl) ?_
      refine TL.gY rfl rfl rfl ?_
      refine TL.p (EvP.move rfl) ?_
      refine TL.gY rfl rfl rfl ?_
      refine TL.r (EvR.loadN (vs := [_, _, _]) rfl Try.isAgg48 Try.sizeOf48 (AtB.own (by repeat (first | exact Has.hd | refine Has.tlb ?_ | refine Has.tlc ?_))) (by exact ⟨rfl, rfl, rfl,  trivial⟩)) ?_
      refine TL.gY rfl rfl rfl ?_
      refine TL.le (Le.hit1 (Le.hit1 (Le.hit1 (Le.hit1 (Le.hit (Le.hit (Le.hit (Le.hit (Le.hit (Le.refl _)))))))))) ?_
      refine TL.yield (A := J (j + 1)) (B := Jx) (G := fun R2 => [[(b6, .cells s.2.enc.toArray 48 (0, 0))], Cn] ++ ([[(b1, .cells [.pointer (some ⟨g, 0, none⟩)].toArray 24 (0, 0))], [(b2, .cells [.func (.func 55) #[] #[.pointer (some ⟨p, 0, none⟩)]].toArray 83 (0, 0))], [(p, .cells [.int .i64 pid].toArray 2 (0, 0))], [(g, .cells [.map (some mb), .int .i64 n, .map (some ml), .map (some mr)].toArray 65 (0, 0))], [(mb, mapObj kI eb cb)], [(ml, mapObj kP el cl)], [(mr, mapObj kI er cr)]] ++ R2)) rfl rfl rfl (fun w hs => hy j [s.2.v] (cnt_at hx hp hj) Rj w [[(b6, .cells s.2.enc.toArray 48 (0, 0))], Cn] hJ hs) (fun R2 hR2 => ?_) (fun R2 hR2 => ?_)
      · refine TL.gY rfl rfl rfl ?_
        refine TL.p (EvP.not rfl) ?_
        refine TL.p (EvP.pickT rfl rfl) ?_
        refine TL.nil ?_
        refine TX.thenN rfl rfl ?_
        refine TC.cfalse rfl ?_
        refine TC.skip ?_
        refine TX.blkN ?_
        refine TX.thenN rfl rfl ?_
        refine TC.region ?_
        refine TL.p (EvP.add rfl rfl (by omega)) ?_
        refine TL.p (EvP.move rfl) ?_
        refine TL.nil ?_
        refine TX.back ((i + 1, (j + 1), R2)) (⟨by omega, by rw [cnt_yes hx hp, hj], hR2⟩) (by simp only; omega) ⟨rfl, rfl, rfl, rfl, rfl, rfl, trivial⟩ (by repeat (first | exact Le.refl _ | exact Le.nil _ | refine Le.hit ?_ | refine Le.hit1 ?_ | refine Le.hit2 ?_ | refine Le.hit3 ?_ | refine Le.hit4 ?_ | refine Le.hit5 ?_ | refine Le.hit6 ?_ | refine Le.hit7 ?_ | refine Le.hit8 ?_ | refine Le.hit9 ?_ | refine Le.hit10 ?_ | refine Le.skip ?_))
      · refine TL.gY rfl rfl rfl ?_
        refine TL.p (EvP.not rfl) ?_
        refine TL.p (EvP.pickT rfl rfl) ?_
        refine TL.nil ?_
        refine TX.thenN rfl rfl ?_
        refine TC.ctrue rfl ?_
        refine TC.ret ?_
        refine TX.blkR ?_
        refine TX.thenR ?_
        refine TX.thenR ?_
        refine TX.blkR ?_
        refine TX.done rfl (Res.none rfl) (fun w hs => ⟨rfl, R2, .inr hR2, hs.le (by repeat (first | exact Le.refl _ | exact Le.nil _ | refine Le.hit ?_ | refine Le.hit1 ?_ | refine Le.hit2 ?_ | refine Le.hit3 ?_ | refine Le.hit4 ?_ | refine Le.hit5 ?_ | refine Le.hit6 ?_ | refine Le.hit7 ?_ | refine Le.hit8 ?_ | refine Le.hit9 ?_ | refine Le.hit10 ?_ | refine Le.skip ?_))⟩)
    · refine TL.p (EvP.move rfl) ?_
      refine TL.gN rfl rfl rfl ?_
      refine TL.gN rfl rfl rfl ?_
      refine TL.gN rfl rfl rfl ?_
      refine TL.gN rfl rfl rfl ?_
      refine TL.p (EvP.pickF rfl rfl) ?_
      refine TL.nil ?_
      refine TX.thenN rfl rfl ?_
      refine TC.cfalse rfl ?_
      refine TC.skip ?_
      refine TX.blkN ?_
      refine TX.thenN rfl rfl ?_
      refine TC.region ?_
      refine TL.p (EvP.add rfl rfl (by omega)) ?_
      refine TL.p (EvP.move rfl) ?_
      refine TL.nil ?_
      refine TX.back ((i + 1, j, Rj)) (⟨by omega, by rw [cnt_no hx hp, hj], hJ⟩) (by simp only; omega) ⟨rfl, rfl, rfl, rfl, rfl, rfl, trivial⟩ (by repeat (first | exact Le.refl _ | exact Le.nil _ | refine Le.hit ?_ | refine Le.hit1 ?_ | refine Le.hit2 ?_ | refine Le.hit3 ?_ | refine Le.hit4 ?_ | refine Le.hit5 ?_ | refine Le.hit6 ?_ | refine Le.hit7 ?_ | refine Le.hit8 ?_ | refine Le.hit9 ?_ | refine Le.hit10 ?_ | refine Le.skip ?_))
  · refine TL.nil ?_
    refine TX.thenN rfl rfl ?_
    refine TC.seq ?_
    refine TC.cfalse rfl ?_
    refine TC.exit ?_
    refine TX.thenE ?_
    refine TX.thenE ?_
    refine TX.blkH ?_
    have hi3 : i = S.length := by omega
    refine TX.doneN rfl (Res.none rfl) (fun w hs => ⟨rfl, Rj, .inl ?_, hs.le (by repeat (first | exact Le.refl _ | exact Le.nil _ | refine Le.hit ?_ | refine Le.hit1 ?_ | refine Le.hit2 ?_ | refine Le.hit3 ?_ | refine Le.hit4 ?_ | refine Le.hit5 ?_ | refine Le.hit6 ?_ | refine Le.hit7 ?_ | refine Le.hit8 ?_ | refine Le.hit9 ?_ | refine Le.hit10 ?_ | refine Le.skip ?_))⟩)
    rw [cnt_end hi3 hj]; exact hJ
end Go.Proofs.Ytnmljhhbabjlcaa
