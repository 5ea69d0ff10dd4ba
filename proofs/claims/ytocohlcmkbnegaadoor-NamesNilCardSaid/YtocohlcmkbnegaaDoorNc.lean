/-
  Walks of the program's names: over the two maps.
-/
import Derived.Test.YtocohlcmkbnegaaDoorNa
set_option linter.unusedSimpArgs false
set_option linter.unusedVariables false
set_option maxRecDepth 100000
namespace Go.Proofs.YtocohlcmkbnegaaDoor
open Go Go.RowKit

theorem kSm : KL Tryd.prog 9 kS := KL.strL Tryd.runUnderlying9
theorem kNm : KL Tryd.prog 2 kI := KL.int Tryd.runUnderlying2
theorem Le.close3 {a b c : Nat × Obj} {R} : Le ([a, b, c] :: R) ([a] :: [b] :: [c] :: R) := ⟨[], by simp⟩
theorem Le.open3 {a b c : Nat × Obj} {R} : Le ([a] :: [b] :: [c] :: R) ([a, b, c] :: R) := ⟨[], by simp⟩
/-- The program's names, over a list of entries. -/
def IsN (L : List En) (g : Nat) (C : Chunk) : Prop := ∃ mw mn es cs en cn, C = [(g, .cells [.map (some mw), .map (some mn)].toArray 54 (0, 0)), (mw, mapObj kS es cs), (mn, mapObj kI en cn)] ∧ NOk L es cs en cn
theorem IsN.ok {L : List En} {g : Nat} {C : Chunk} (h : IsN L g C) : NL L := by
  obtain ⟨_, _, _, _, _, _, _, hN⟩ := h
  exact hN.ok
theorem none_of {α : Type} {o : Option α} (h : o.isSome = false) : o = none := by cases o <;> simp_all
theorem oka0 {s : Str} (h : (if okA s = true then (0 : Int) else 20) ≠ 0) : okA s = false := by
  cases e : okA s with
  | false => rfl
  | true => rw [e] at h; simp at h
theorem okn {s : Str} (h : ¬ (if okA s = true then (0 : Int) else 20) ≠ 0) (h2 : ¬ s = undef_) : okN s = true := by
  unfold okN
  cases e : okA s with
  | false => rw [e] at h; simp at h
  | true => simp [h2]
section
variable {L : List En} {es : List (Ent Str)} {cs : Nat} {en : List (Ent Int)} {cn : Nat} {s : Str} {p : Int}
theorem find_val (hN : NOk L es cs en cn) (s : Str) : Value.tuple #[(valOf s es).getD (.int .i64 0), .bool (valOf s es).isSome] = .tuple #[.int .i64 (fndN L s).1, .bool (fndN L s).2] := by
  unfold fndN
  rcases hN.valS s with ⟨h1, _, h2⟩ | ⟨e, _, _, h1, _, h2⟩ <;> rw [h1, h2] <;> rfl
theorem name_val (hN : NOk L es cs en cn) (p : Int) : Value.tuple #[(valOf p en).getD (sv []), .bool (valOf p en).isSome] = .tuple #[sv (fndP L p).1, .bool (fndP L p).2] := by
  unfold fndP
  rcases hN.valP p with ⟨h1, _, h2⟩ | ⟨e, _, _, h1, _, h2⟩ <;> rw [h1, h2] <;> rfl
theorem add_20 (h : okA s = false ∨ s = undef_) : add L s p = (20, L) := by
  unfold add okN
  rcases h with h | h <;> simp [h]
theorem add_1 (h : okN s = true) (hp : okPid p = false) : add L s p = (1, L) := by
  unfold add
  simp [h, hp]
theorem add_6 (hN : NOk L es cs en cn) (h : okN s = true) (hp : okPid p = true) (hb : (valOf s es).isSome = true ∨ (valOf p en).isSome = true) : add L s p = (6, L) := by
  unfold add
  have : (L.any (isN s) || L.any (isP p)) = true := by
    rcases hN.valS s with ⟨_, h1, h2⟩ | ⟨_, _, _, _, h1, h2⟩ <;> rcases hN.valP p with ⟨_, h3, h4⟩ | ⟨_, _, _, _, h3, h4⟩ <;> simp_all
  simp [h, hp, this]
theorem add_8 (hN : NOk L es cs en cn) (h : okN s = true) (hp : okPid p = true) (h1 : valOf s es = none) (h2 : valOf p en = none) (hl : 64 ≤ es.length) : add L s p = (8, L) := by
  have hl' : 64 ≤ L.length := by rw [← hN.lens]; exact hl
  unfold add
  have : (L.any (isN s) || L.any (isP p)) = false := by
    rcases hN.valS s with ⟨_, h3, _⟩ | ⟨_, _, _, _, _, h3⟩ <;> rcases hN.valP p with ⟨_, h5, _⟩ | ⟨_, _, _, _, _, h5⟩ <;> simp_all
  rw [if_neg (by simp [h]), if_neg (by simp [hp]), if_neg (by simp [this]), if_pos hl']
theorem add_0 (hN : NOk L es cs en cn) (h : okN s = true) (hp : okPid p = true) (h1 : valOf s es = none) (h2 : valOf p en = none) (hl : ¬ 64 ≤ es.length) :
    (add L s p).1 = 0 ∧ NOk (add L s p).2 (es ++ [(s, .int .i64 p, cs)]) (cs + 1) (en ++ [(p, sv s, cn)]) (cn + 1) := by
  have hl' : ¬ 64 ≤ L.length := by rw [← hN.lens]; exact hl
  have hq : L.any (isN s) = false ∧ L.any (isP p) = false := by
    rcases hN.valS s with ⟨_, h3, _⟩ | ⟨_, _, _, _, _, h3⟩ <;> rcases hN.valP p with ⟨_, h5, _⟩ | ⟨_, _, _, _, _, h5⟩ <;> simp_all
  unfold add
  rw [if_neg (by simp [h]), if_neg (by simp [hp]), if_neg (by simp [hq.1, hq.2]), if_neg hl']
  exact ⟨rfl, hN.add (by omega) hq.1 hq.2⟩
end

theorem new_spec {w0 w : World} {R : List Chunk} (hst : St w0 w R) : Calls Tryd.prog 7 #[] w (Post1 w0 R fun u C => ∃ g, u = .pointer (some ⟨g, 0, none⟩) ∧ IsN [] g C) := by
  refine calls_of (args := []) Tryd.func7 rfl Tryd.ntmps7 hst ?_
  refine TC.seq ?_
  refine TC.region ?_
  refine TL.p (EvP.assign rfl) ?_
  refine TL.nil ?_
  refine TX.thenN rfl rfl ?_
  refine TC.seq ?_
  refine TC.region ?_
  refine TL.makeMap kS (fun b1 => ?_)
  refine TL.makeMap kI (fun b2 => ?_)
  refine TL.p (EvP.buildS (is := [0, 1]) (xs := [_, _]) rfl Tryd.runUnderlying54 Tryd.zeroValue54 rfl (.cons Tryd.sizeOf51 (.cons Tryd.sizeOf52 .nil)) rfl rfl rfl) ?_
  refine TL.box rfl rfl (fun b4 => ?_)
  refine TL.p (EvP.assign rfl) ?_
  refine TL.nil ?_
  refine TX.thenN rfl rfl ?_
  refine TC.ret ?_
  refine TX.done rfl (Res.one rfl rfl) (fun w hs => Post1.mk (C := [(b4, _), (b1, _), (b2, _)]) hs ?_ (Le.trans Le.close3 (by repeat (first | exact Le.refl _ | exact Le.nil _ | refine Le.hit ?_ | refine Le.hit1 ?_ | refine Le.hit2 ?_ | refine Le.hit3 ?_ | refine Le.hit4 ?_ | refine Le.hit5 ?_ | refine Le.hit6 ?_ | refine Le.hit7 ?_ | refine Le.hit8 ?_ | refine Le.hit9 ?_ | refine Le.hit10 ?_ | refine Le.skip ?_))))
  exact ⟨b4, rfl, b1, b2, [], 0, [], 0, rfl, .new⟩

theorem len_raw {w0 w : World} {R : List Chunk} {g mw mn : Nat} {L : List En} {es : List (Ent Str)} {cs : Nat} {en : List (Ent Int)} {cn : Nat} (hN : NOk L es cs en cn) (hst : St w0 w ([(g, .cells [.map (some mw), .map (some mn)].toArray 54 (0, 0))] :: [(mw, mapObj kS (es) (cs))] :: [(mn, mapObj kI (en) (cn))] :: R)) : Calls Tryd.prog 9 #[.pointer (some ⟨g, 0, none⟩)] w (Post1 w0 R fun u C => u = .int .i64 L.length ∧ C = [(g, .cells [.map (some mw), .map (some mn)].toArray 54 (0, 0)), (mw, mapObj kS (es) (cs)), (mn, mapObj kI (en) (cn))]) := by
  refine calls_of (args := [_]) Tryd.func9 rfl Tryd.ntmps9 hst ?_
  refine TC.seq ?_
  refine TC.region ?_
  refine TL.p (EvP.assign rfl) ?_
  refine TL.nil ?_
  refine TX.thenN rfl rfl ?_
  refine TC.seq ?_
  refine TC.seq ?_
  refine TC.region ?_
  refine TL.p (EvP.move rfl) ?_
  refine TL.p (EvP.eqPtrNil Tryd.runUnderlying23 rfl rfl) ?_
  refine TL.nil ?_
  refine TX.thenN rfl rfl ?_
  refine TC.cfalse rfl ?_
  refine TC.skip ?_
  refine TX.thenN rfl rfl ?_
  refine TC.seq ?_
  refine TC.region ?_
  refine TL.p (EvP.move rfl) ?_
  refine TL.p (EvP.nilP rfl) ?_
  refine TL.p (EvP.fa (e := 0) rfl Tryd.runUnderlying54 rfl Tryd.sizeOf51 rfl) ?_
  refine TL.r (EvR.load rfl Tryd.isAgg51 (AtB.own (by repeat (first | exact Has.hd | refine Has.tlb ?_ | refine Has.tlc ?_))) (by rfl)) ?_
  refine TL.r (EvR.lenM (ke := kS) Tryd.runUnderlying51 rfl (AtB.own (by repeat (first | exact Has.hd | refine Has.tlb ?_ | refine Has.tlc ?_)))) ?_
  refine TL.p (EvP.assign rfl) ?_
  refine TL.nil ?_
  refine TX.thenN rfl rfl ?_
  refine TC.ret ?_
  refine TX.done rfl (Res.one rfl rfl) (fun w hs => Post1.mk (C := [(g, .cells [.map (some mw), .map (some mn)].toArray 54 (0, 0)), (mw, mapObj kS (es) (cs)), (mn, mapObj kI (en) (cn))]) hs ?_ (Le.trans Le.close3 (by repeat (first | exact Le.refl _ | exact Le.nil _ | refine Le.hit ?_ | refine Le.hit1 ?_ | refine Le.hit2 ?_ | refine Le.hit3 ?_ | refine Le.hit4 ?_ | refine Le.hit5 ?_ | refine Le.hit6 ?_ | refine Le.hit7 ?_ | refine Le.hit8 ?_ | refine Le.hit9 ?_ | refine Le.hit10 ?_ | refine Le.skip ?_))))
  exact ⟨by rw [hN.lens], rfl⟩

theorem find_raw {w0 w : World} {R : List Chunk} {g mw mn : Nat} {L : List En} {es : List (Ent Str)} {cs : Nat} {en : List (Ent Int)} {cn : Nat} (hN : NOk L es cs en cn) (s : Str) (hst : St w0 w ([(g, .cells [.map (some mw), .map (some mn)].toArray 54 (0, 0))] :: [(mw, mapObj kS (es) (cs))] :: [(mn, mapObj kI (en) (cn))] :: R)) : Calls Tryd.prog 16 #[.pointer (some ⟨g, 0, none⟩), sv s] w (Post1 w0 R fun u C => u = .tuple #[.int .i64 (fndN L s).1, .bool (fndN L s).2] ∧ C = [(g, .cells [.map (some mw), .map (some mn)].toArray 54 (0, 0)), (mw, mapObj kS (es) (cs)), (mn, mapObj kI (en) (cn))]) := by
  refine calls_of (args := [_, _]) Tryd.func16 rfl Tryd.ntmps16 hst ?_
  refine TC.seq ?_
  refine TC.region ?_
  refine TL.p (EvP.assign rfl) ?_
  refine TL.p (EvP.assign rfl) ?_
  refine TL.nil ?_
  refine TX.thenN rfl rfl ?_
  refine TC.seq ?_
  refine TC.seq ?_
  refine TC.region ?_
  refine TL.p (EvP.move rfl) ?_
  refine TL.p (EvP.eqPtrNil Tryd.runUnderlying23 rfl rfl) ?_
  refine TL.nil ?_
  refine TX.thenN rfl rfl ?_
  refine TC.cfalse rfl ?_
  refine TC.skip ?_
  refine TX.thenN rfl rfl ?_
  refine TC.seq ?_
  refine TC.region ?_
  refine TL.p (EvP.move rfl) ?_
  refine TL.p (EvP.nilP rfl) ?_
  refine TL.p (EvP.fa (e := 0) rfl Tryd.runUnderlying54 rfl Tryd.sizeOf51 rfl) ?_
  refine TL.r (EvR.load rfl Tryd.isAgg51 (AtB.own (by repeat (first | exact Has.hd | refine Has.tlb ?_ | refine Has.tlc ?_))) (by rfl)) ?_
  refine TL.p (EvP.move rfl) ?_
  refine TL.r (EvR.lookupOk (ke := kS) kSm Tryd.runUnderlying51 Tryd.zeroValue2 rfl rfl (AtB.own (by repeat (first | exact Has.hd | refine Has.tlb ?_ | refine Has.tlc ?_)))) ?_
  refine TL.p (EvP.move rfl) ?_
  refine TL.p (EvP.extract rfl rfl) ?_
  refine TL.p (EvP.extract rfl rfl) ?_
  refine TL.p (EvP.assign rfl) ?_
  refine TL.p (EvP.assign rfl) ?_
  refine TL.nil ?_
  refine TX.thenN rfl rfl ?_
  refine TC.seq ?_
  refine TC.region ?_
  refine TL.p (EvP.move rfl) ?_
  refine TL.p (EvP.move rfl) ?_
  refine TL.p (EvP.assign rfl) ?_
  refine TL.p (EvP.assign rfl) ?_
  refine TL.nil ?_
  refine TX.thenN rfl rfl ?_
  refine TC.ret ?_
  refine TX.done rfl (Res.two rfl rfl rfl) (fun w hs => Post1.mk (C := [(g, .cells [.map (some mw), .map (some mn)].toArray 54 (0, 0)), (mw, mapObj kS (es) (cs)), (mn, mapObj kI (en) (cn))]) hs ?_ (Le.trans Le.close3 (by repeat (first | exact Le.refl _ | exact Le.nil _ | refine Le.hit ?_ | refine Le.hit1 ?_ | refine Le.hit2 ?_ | refine Le.hit3 ?_ | refine Le.hit4 ?_ | refine Le.hit5 ?_ | refine Le.hit6 ?_ | refine Le.hit7 ?_ | refine Le.hit8 ?_ | refine Le.hit9 ?_ | refine Le.hit10 ?_ | refine Le.skip ?_))))
  exact ⟨find_val hN s, rfl⟩

theorem name_raw {w0 w : World} {R : List Chunk} {g mw mn : Nat} {L : List En} {es : List (Ent Str)} {cs : Nat} {en : List (Ent Int)} {cn : Nat} (hN : NOk L es cs en cn) (p : Int) (hst : St w0 w ([(g, .cells [.map (some mw), .map (some mn)].toArray 54 (0, 0))] :: [(mw, mapObj kS (es) (cs))] :: [(mn, mapObj kI (en) (cn))] :: R)) : Calls Tryd.prog 17 #[.pointer (some ⟨g, 0, none⟩), .int .i64 p] w (Post1 w0 R fun u C => u = .tuple #[sv (fndP L p).1, .bool (fndP L p).2] ∧ C = [(g, .cells [.map (some mw), .map (some mn)].toArray 54 (0, 0)), (mw, mapObj kS (es) (cs)), (mn, mapObj kI (en) (cn))]) := by
  refine calls_of (args := [_, _]) Tryd.func17 rfl Tryd.ntmps17 hst ?_
  refine TC.seq ?_
  refine TC.region ?_
  refine TL.p (EvP.assign rfl) ?_
  refine TL.p (EvP.assign rfl) ?_
  refine TL.nil ?_
  refine TX.thenN rfl rfl ?_
  refine TC.seq ?_
  refine TC.seq ?_
  refine TC.region ?_
  refine TL.p (EvP.move rfl) ?_
  refine TL.p (EvP.eqPtrNil Tryd.runUnderlying23 rfl rfl) ?_
  refine TL.nil ?_
  refine TX.thenN rfl rfl ?_
  refine TC.cfalse rfl ?_
  refine TC.skip ?_
  refine TX.thenN rfl rfl ?_
  refine TC.seq ?_
  refine TC.region ?_
  refine TL.p (EvP.move rfl) ?_
  refine TL.p (EvP.nilP rfl) ?_
  refine TL.p (EvP.fa (e := 1) rfl Tryd.runUnderlying54 rfl Tryd.sizeOf52 rfl) ?_
  refine TL.r (EvR.load rfl Tryd.isAgg52 (AtB.own (by repeat (first | exact Has.hd | refine Has.tlb ?_ | refine Has.tlc ?_))) (by rfl)) ?_
  refine TL.p (EvP.move rfl) ?_
  refine TL.r (EvR.lookupOk (ke := kI) kNm Tryd.runUnderlying52 Tryd.zeroValue9 rfl rfl (AtB.own (by repeat (first | exact Has.hd | refine Has.tlb ?_ | refine Has.tlc ?_)))) ?_
  refine TL.p (EvP.move rfl) ?_
  refine TL.p (EvP.extract rfl rfl) ?_
  refine TL.p (EvP.extract rfl rfl) ?_
  refine TL.p (EvP.assign rfl) ?_
  refine TL.p (EvP.assign rfl) ?_
  refine TL.nil ?_
  refine TX.thenN rfl rfl ?_
  refine TC.seq ?_
  refine TC.region ?_
  refine TL.p (EvP.move rfl) ?_
  refine TL.p (EvP.move rfl) ?_
  refine TL.p (EvP.assign rfl) ?_
  refine TL.p (EvP.assign rfl) ?_
  refine TL.nil ?_
  refine TX.thenN rfl rfl ?_
  refine TC.ret ?_
  refine TX.done rfl (Res.two rfl rfl rfl) (fun w hs => Post1.mk (C := [(g, .cells [.map (some mw), .map (some mn)].toArray 54 (0, 0)), (mw, mapObj kS (es) (cs)), (mn, mapObj kI (en) (cn))]) hs ?_ (Le.trans Le.close3 (by repeat (first | exact Le.refl _ | exact Le.nil _ | refine Le.hit ?_ | refine Le.hit1 ?_ | refine Le.hit2 ?_ | refine Le.hit3 ?_ | refine Le.hit4 ?_ | refine Le.hit5 ?_ | refine Le.hit6 ?_ | refine Le.hit7 ?_ | refine Le.hit8 ?_ | refine Le.hit9 ?_ | refine Le.hit10 ?_ | refine Le.skip ?_))))
  exact ⟨name_val hN p, rfl⟩

theorem drop_no {w0 w : World} {R : List Chunk} {g mw mn : Nat} {L : List En} {es : List (Ent Str)} {cs : Nat} {en : List (Ent Int)} {cn : Nat} (hN : NOk L es cs en cn) {s : Str} (hv : valOf s es = none) (hst : St w0 w ([(g, .cells [.map (some mw), .map (some mn)].toArray 54 (0, 0))] :: [(mw, mapObj kS (es) (cs))] :: [(mn, mapObj kI (en) (cn))] :: R)) : Calls Tryd.prog 14 #[.pointer (some ⟨g, 0, none⟩), sv s] w (Post1 w0 R fun u C => u = .int .i64 5 ∧ C = [(g, .cells [.map (some mw), .map (some mn)].toArray 54 (0, 0)), (mw, mapObj kS (es) (cs)), (mn, mapObj kI (en) (cn))]) := by
  refine calls_of (args := [_, _]) Tryd.func14 rfl Tryd.ntmps14 hst ?_
  refine TC.seq ?_
  refine TC.region ?_
  refine TL.p (EvP.assign rfl) ?_
  refine TL.nil ?_
  refine TX.thenN rfl rfl ?_
  refine TC.seq ?_
  refine TC.seq ?_
  refine TC.region ?_
  refine TL.p (EvP.move rfl) ?_
  refine TL.p (EvP.eqPtrNil Tryd.runUnderlying23 rfl rfl) ?_
  refine TL.nil ?_
  refine TX.thenN rfl rfl ?_
  refine TC.cfalse rfl ?_
  refine TC.skip ?_
  refine TX.thenN rfl rfl ?_
  refine TC.seq ?_
  refine TC.region ?_
  refine TL.p (EvP.move rfl) ?_
  refine TL.p (EvP.nilP rfl) ?_
  refine TL.p (EvP.fa (e := 0) rfl Tryd.runUnderlying54 rfl Tryd.sizeOf51 rfl) ?_
  refine TL.r (EvR.load rfl Tryd.isAgg51 (AtB.own (by repeat (first | exact Has.hd | refine Has.tlb ?_ | refine Has.tlc ?_))) (by rfl)) ?_
  refine TL.p (EvP.move rfl) ?_
  refine TL.r (EvR.lookupOkN (ke := kS) kSm Tryd.runUnderlying51 Tryd.zeroValue2 hv rfl rfl (AtB.own (by repeat (first | exact Has.hd | refine Has.tlb ?_ | refine Has.tlc ?_)))) ?_
  refine TL.p (EvP.move rfl) ?_
  refine TL.p (EvP.extract rfl rfl) ?_
  refine TL.p (EvP.extract rfl rfl) ?_
  refine TL.p (EvP.assign rfl) ?_
  refine TL.p (EvP.assign rfl) ?_
  refine TL.nil ?_
  refine TX.thenN rfl rfl ?_
  refine TC.seq ?_
  refine TC.seq ?_
  refine TC.region ?_
  refine TL.p (EvP.move rfl) ?_
  refine TL.p (EvP.not rfl) ?_
  refine TL.nil ?_
  refine TX.thenN rfl rfl ?_
  refine TC.ctrue rfl ?_
  refine TC.seq ?_
  refine TC.region ?_
  refine TL.p (EvP.assign rfl) ?_
  refine TL.nil ?_
  refine TX.thenN rfl rfl ?_
  refine TC.ret ?_
  refine TX.thenR ?_
  refine TX.done rfl (Res.one rfl rfl) (fun w hs => Post1.mk (C := [(g, .cells [.map (some mw), .map (some mn)].toArray 54 (0, 0)), (mw, mapObj kS (es) (cs)), (mn, mapObj kI (en) (cn))]) hs ?_ (Le.trans Le.close3 (by repeat (first | exact Le.refl _ | exact Le.nil _ | refine Le.hit ?_ | refine Le.hit1 ?_ | refine Le.hit2 ?_ | refine Le.hit3 ?_ | refine Le.hit4 ?_ | refine Le.hit5 ?_ | refine Le.hit6 ?_ | refine Le.hit7 ?_ | refine Le.hit8 ?_ | refine Le.hit9 ?_ | refine Le.hit10 ?_ | refine Le.skip ?_))))
  exact ⟨rfl, rfl⟩

theorem drop_yes {w0 w : World} {R : List Chunk} {g mw mn : Nat} {L : List En} {es : List (Ent Str)} {cs : Nat} {en : List (Ent Int)} {cn : Nat} (hN : NOk L es cs en cn) {s : Str} {p : Int} (hv : valOf s es = some (.int .i64 p)) (hst : St w0 w ([(g, .cells [.map (some mw), .map (some mn)].toArray 54 (0, 0))] :: [(mw, mapObj kS (es) (cs))] :: [(mn, mapObj kI (en) (cn))] :: R)) : Calls Tryd.prog 14 #[.pointer (some ⟨g, 0, none⟩), sv s] w (Post1 w0 R fun u C => u = .int .i64 0 ∧ C = [(g, .cells [.map (some mw), .map (some mn)].toArray 54 (0, 0)), (mw, mapObj kS (delE s es) (cs)), (mn, mapObj kI (delE p en) (cn))]) := by
  refine calls_of (args := [_, _]) Tryd.func14 rfl Tryd.ntmps14 hst ?_
  refine TC.seq ?_
  refine TC.region ?_
  refine TL.p (EvP.assign rfl) ?_
  refine TL.nil ?_
  refine TX.thenN rfl rfl ?_
  refine TC.seq ?_
  refine TC.seq ?_
  refine TC.region ?_
  refine TL.p (EvP.move rfl) ?_
  refine TL.p (EvP.eqPtrNil Tryd.runUnderlying23 rfl rfl) ?_
  refine TL.nil ?_
  refine TX.thenN rfl rfl ?_
  refine TC.cfalse rfl ?_
  refine TC.skip ?_
  refine TX.thenN rfl rfl ?_
  refine TC.seq ?_
  refine TC.region ?_
  refine TL.p (EvP.move rfl) ?_
  refine TL.p (EvP.nilP rfl) ?_
  refine TL.p (EvP.fa (e := 0) rfl Tryd.runUnderlying54 rfl Tryd.sizeOf51 rfl) ?_
  refine TL.r (EvR.load rfl Tryd.isAgg51 (AtB.own (by repeat (first | exact Has.hd | refine Has.tlb ?_ | refine Has.tlc ?_))) (by rfl)) ?_
  refine TL.p (EvP.move rfl) ?_
  refine TL.r (EvR.lookupOkY (ke := kS) kSm Tryd.runUnderlying51 Tryd.zeroValue2 hv rfl rfl (AtB.own (by repeat (first | exact Has.hd | refine Has.tlb ?_ | refine Has.tlc ?_)))) ?_
  refine TL.p (EvP.move rfl) ?_
  refine TL.p (EvP.extract rfl rfl) ?_
  refine TL.p (EvP.extract rfl rfl) ?_
  refine TL.p (EvP.assign rfl) ?_
  refine TL.p (EvP.assign rfl) ?_
  refine TL.nil ?_
  refine TX.thenN rfl rfl ?_
  refine TC.seq ?_
  refine TC.seq ?_
  refine TC.region ?_
  refine TL.p (EvP.move rfl) ?_
  refine TL.p (EvP.not rfl) ?_
  refine TL.nil ?_
  refine TX.thenN rfl rfl ?_
  refine TC.cfalse rfl ?_
  refine TC.skip ?_
  refine TX.thenN rfl rfl ?_
  refine TC.seq ?_
  refine TC.region ?_
  refine TL.p (EvP.move rfl) ?_
  refine TL.p (EvP.nilP rfl) ?_
  refine TL.p (EvP.fa (e := 0) rfl Tryd.runUnderlying54 rfl Tryd.sizeOf51 rfl) ?_
  refine TL.r (EvR.load rfl Tryd.isAgg51 (AtB.own (by repeat (first | exact Has.hd | refine Has.tlb ?_ | refine Has.tlc ?_))) (by rfl)) ?_
  refine TL.p (EvP.move rfl) ?_
  refine TL.delete0 (ke := kS) kSm Tryd.runUnderlying51 rfl rfl (by repeat (first | exact Upd.hd | apply Upd.tlb | apply Upd.tlc)) ?_
  refine TL.nil ?_
  refine TX.thenN rfl rfl ?_
  refine TC.seq ?_
  refine TC.region ?_
  refine TL.p (EvP.move rfl) ?_
  refine TL.p (EvP.nilP rfl) ?_
  refine TL.p (EvP.fa (e := 1) rfl Tryd.runUnderlying54 rfl Tryd.sizeOf52 rfl) ?_
  refine TL.r (EvR.load rfl Tryd.isAgg52 (AtB.own (by repeat (first | exact Has.hd | refine Has.tlb ?_ | refine Has.tlc ?_))) (by rfl)) ?_
  refine TL.p (EvP.move rfl) ?_
  refine TL.delete0 (ke := kI) kNm Tryd.runUnderlying52 rfl rfl (by repeat (first | exact Upd.hd | apply Upd.tlb | apply Upd.tlc)) ?_
  refine TL.nil ?_
  refine TX.thenN rfl rfl ?_
  refine TC.seq ?_
  refine TC.region ?_
  refine TL.p (EvP.assign rfl) ?_
  refine TL.nil ?_
  refine TX.thenN rfl rfl ?_
  refine TC.ret ?_
  refine TX.done rfl (Res.one rfl rfl) (fun w hs => Post1.mk (C := [(g, .cells [.map (some mw), .map (some mn)].toArray 54 (0, 0)), (mw, mapObj kS (delE s es) (cs)), (mn, mapObj kI (delE p en) (cn))]) hs ?_ (Le.trans Le.close3 (by repeat (first | exact Le.refl _ | exact Le.nil _ | refine Le.hit ?_ | refine Le.hit1 ?_ | refine Le.hit2 ?_ | refine Le.hit3 ?_ | refine Le.hit4 ?_ | refine Le.hit5 ?_ | refine Le.hit6 ?_ | refine Le.hit7 ?_ | refine Le.hit8 ?_ | refine Le.hit9 ?_ | refine Le.hit10 ?_ | refine Le.skip ?_))))
  exact ⟨rfl, rfl⟩

theorem add_raw {w0 w : World} {R : List Chunk} {g mw mn : Nat} {L : List En} {es : List (Ent Str)} {cs : Nat} {en : List (Ent Int)} {cn : Nat} (hN : NOk L es cs en cn) (hT : Tabs w0) (s : Str) (p : Int) (hst : St w0 w ([(g, .cells [.map (some mw), .map (some mn)].toArray 54 (0, 0))] :: [(mw, mapObj kS (es) (cs))] :: [(mn, mapObj kI (en) (cn))] :: R)) : Calls Tryd.prog 13 #[.pointer (some ⟨g, 0, none⟩), sv s, .int .i64 p] w (Post1 w0 R fun u C => u = .int .i64 (add L s p).1 ∧ IsN (add L s p).2 g C) := by
  refine calls_of (args := [_, _, _]) Tryd.func13 rfl Tryd.ntmps13 hst ?_
  refine TC.seq ?_
  refine TC.region ?_
  refine TL.p (EvP.assign rfl) ?_
  refine TL.nil ?_
  refine TX.thenN rfl rfl ?_
  refine TC.seq ?_
  refine TC.seq ?_
  refine TC.region ?_
  refine TL.p (EvP.move rfl) ?_
  refine TL.p (EvP.eqPtrNil Tryd.runUnderlying23 rfl rfl) ?_
  refine TL.nil ?_
  refine TX.thenN rfl rfl ?_
  refine TC.cfalse rfl ?_
  refine TC.skip ?_
  refine TX.thenN rfl rfl ?_
  refine TC.seq ?_
  refine TC.region ?_
  refine TL.p (EvP.move rfl) ?_
  refine TL.p (EvP.nilP rfl) ?_
  refine TL.p (EvP.fa (e := 0) rfl Tryd.runUnderlying54 rfl Tryd.sizeOf51 rfl) ?_
  refine TL.r (EvR.load rfl Tryd.isAgg51 (AtB.own (by repeat (first | exact Has.hd | refine Has.tlb ?_ | refine Has.tlc ?_))) (by rfl)) ?_
  refine TL.p (EvP.move rfl) ?_
  refine TL.r (EvR.lookupOk (ke := kS) kSm Tryd.runUnderlying51 Tryd.zeroValue2 rfl rfl (AtB.own (by repeat (first | exact Has.hd | refine Has.tlb ?_ | refine Has.tlc ?_)))) ?_
  refine TL.p (EvP.move rfl) ?_
  refine TL.p (EvP.extract rfl rfl) ?_
  refine TL.p (EvP.extract rfl rfl) ?_
  refine TL.p (EvP.assign rfl) ?_
  refine TL.p (EvP.assign rfl) ?_
  refine TL.nil ?_
  refine TX.thenN rfl rfl ?_
  refine TC.seq ?_
  refine TC.region ?_
  refine TL.p (EvP.move rfl) ?_
  refine TL.p (EvP.nilP rfl) ?_
  refine TL.p (EvP.fa (e := 1) rfl Tryd.runUnderlying54 rfl Tryd.sizeOf52 rfl) ?_
  refine TL.r (EvR.load rfl Tryd.isAgg52 (AtB.own (by repeat (first | exact Has.hd | refine Has.tlb ?_ | refine Has.tlc ?_))) (by rfl)) ?_
  refine TL.p (EvP.move rfl) ?_
  refine TL.r (EvR.lookupOk (ke := kI) kNm Tryd.runUnderlying52 Tryd.zeroValue9 rfl rfl (AtB.own (by repeat (first | exact Has.hd | refine Has.tlb ?_ | refine Has.tlc ?_)))) ?_
  refine TL.p (EvP.move rfl) ?_
  refine TL.p (EvP.extract rfl rfl) ?_
  refine TL.p (EvP.extract rfl rfl) ?_
  refine TL.p (EvP.assign rfl) ?_
  refine TL.p (EvP.assign rfl) ?_
  refine TL.nil ?_
  refine TX.thenN rfl rfl ?_
  refine TC.seq ?_
  refine TC.block ?_
  refine TC.seq ?_
  refine TC.region ?_
  refine TL.p (EvP.move rfl) ?_
  refine TL.callA rfl rfl Tryd.call25 (fun w hs => right_spec hT s hs) ?_
  rintro _ rfl
  refine TL.dec (EvP.ne rfl rfl) (fun h34 => ?_) (fun h34 => ?_)
  · refine TL.p (EvP.move rfl) ?_
    refine TL.gN rfl rfl rfl ?_
    refine TL.gN rfl rfl rfl ?_
    refine TL.p (EvP.pickT rfl rfl) ?_
    refine TL.p (EvP.assign rfl) ?_
    refine TL.nil ?_
    refine TX.thenN rfl rfl ?_
    refine TC.ctrue rfl ?_
    refine TC.seq ?_
    refine TC.region ?_
    refine TL.p (EvP.assign rfl) ?_
    refine TL.nil ?_
    refine TX.thenN rfl rfl ?_
    refine TC.ret ?_
    refine TX.blkR ?_
    refine TX.thenR ?_
    refine TX.done rfl (Res.one rfl rfl) (fun w hs => Post1.mk (C := [(g, .cells [.map (some mw), .map (some mn)].toArray 54 (0, 0)), (mw, mapObj kS (es) (cs)), (mn, mapObj kI (en) (cn))]) hs ?_ (Le.trans Le.close3 (by repeat (first | exact Le.refl _ | exact Le.nil _ | refine Le.hit ?_ | refine Le.hit1 ?_ | refine Le.hit2 ?_ | refine Le.hit3 ?_ | refine Le.hit4 ?_ | refine Le.hit5 ?_ | refine Le.hit6 ?_ | refine Le.hit7 ?_ | refine Le.hit8 ?_ | refine Le.hit9 ?_ | refine Le.hit10 ?_ | refine Le.skip ?_))))
    rw [add_20 (by first | exact .inl (oka0 h34) | exact .inr h37)]; exact ⟨rfl, mw, mn, es, cs, en, cn, rfl, hN⟩
  · refine TL.p (EvP.move rfl) ?_
    refine TL.gY rfl rfl rfl ?_
    refine TL.p (EvP.move rfl) ?_
    refine TL.gY rfl rfl rfl ?_
    refine TL.dec (EvP.eqS rfl rfl) (fun h37 => ?_) (fun h37 => ?_)
    · refine TL.p (EvP.pickF rfl rfl) ?_
      refine TL.p (EvP.assign rfl) ?_
      refine TL.nil ?_
      refine TX.thenN rfl rfl ?_
      refine TC.ctrue rfl ?_
      refine TC.seq ?_
      refine TC.region ?_
      refine TL.p (EvP.assign rfl) ?_
      refine TL.nil ?_
      refine TX.thenN rfl rfl ?_
      refine TC.ret ?_
      refine TX.blkR ?_
      refine TX.thenR ?_
      refine TX.done rfl (Res.one rfl rfl) (fun w hs => Post1.mk (C := [(g, .cells [.map (some mw), .map (some mn)].toArray 54 (0, 0)), (mw, mapObj kS (es) (cs)), (mn, mapObj kI (en) (cn))]) hs ?_ (Le.trans Le.close3 (by repeat (first | exact Le.refl _ | exact Le.nil _ | refine Le.hit ?_ | refine Le.hit1 ?_ | refine Le.hit2 ?_ | refine Le.hit3 ?_ | refine Le.hit4 ?_ | refine Le.hit5 ?_ | refine Le.hit6 ?_ | refine Le.hit7 ?_ | refine Le.hit8 ?_ | refine Le.hit9 ?_ | refine Le.hit10 ?_ | refine Le.skip ?_))))
      rw [add_20 (by first | exact .inl (oka0 h34) | exact .inr h37)]; exact ⟨rfl, mw, mn, es, cs, en, cn, rfl, hN⟩
    · refine TL.p (EvP.pickF rfl rfl) ?_
      refine TL.p (EvP.assign rfl) ?_
      refine TL.nil ?_
      refine TX.thenN rfl rfl ?_
      refine TC.cfalse rfl ?_
      refine TC.seq ?_
      refine TC.region ?_
      refine TL.p (EvP.move rfl) ?_
      refine TL.dec (EvP.lt rfl rfl) (fun h41 => ?_) (fun h41 => ?_)
      · refine TL.p (EvP.move rfl) ?_
        refine TL.gN rfl rfl rfl ?_
        refine TL.gN rfl rfl rfl ?_
        refine TL.p (EvP.pickT rfl rfl) ?_
        refine TL.p (EvP.assign rfl) ?_
        refine TL.nil ?_
        refine TX.thenN rfl rfl ?_
        refine TC.ctrue rfl ?_
        refine TC.seq ?_
        refine TC.region ?_
        refine TL.p (EvP.assign rfl) ?_
        refine TL.nil ?_
        refine TX.thenN rfl rfl ?_
        refine TC.ret ?_
        refine TX.blkR ?_
        refine TX.thenR ?_
        refine TX.done rfl (Res.one rfl rfl) (fun w hs => Post1.mk (C := [(g, .cells [.map (some mw), .map (some mn)].toArray 54 (0, 0)), (mw, mapObj kS (es) (cs)), (mn, mapObj kI (en) (cn))]) hs ?_ (Le.trans Le.close3 (by repeat (first | exact Le.refl _ | exact Le.nil _ | refine Le.hit ?_ | refine Le.hit1 ?_ | refine Le.hit2 ?_ | refine Le.hit3 ?_ | refine Le.hit4 ?_ | refine Le.hit5 ?_ | refine Le.hit6 ?_ | refine Le.hit7 ?_ | refine Le.hit8 ?_ | refine Le.hit9 ?_ | refine Le.hit10 ?_ | refine Le.skip ?_))))
        rw [add_1 (okn h34 h37) (by simp only [okPid, decide_eq_false_iff_not]; omega)]; exact ⟨rfl, mw, mn, es, cs, en, cn, rfl, hN⟩
      · refine TL.p (EvP.move rfl) ?_
        refine TL.gY rfl rfl rfl ?_
        refine TL.p (EvP.move rfl) ?_
        refine TL.gY rfl rfl rfl ?_
        refine TL.dec (EvP.gt rfl rfl) (fun h44 => ?_) (fun h44 => ?_)
        · refine TL.p (EvP.pickF rfl rfl) ?_
          refine TL.p (EvP.assign rfl) ?_
          refine TL.nil ?_
          refine TX.thenN rfl rfl ?_
          refine TC.ctrue rfl ?_
          refine TC.seq ?_
          refine TC.region ?_
          refine TL.p (EvP.assign rfl) ?_
          refine TL.nil ?_
          refine TX.thenN rfl rfl ?_
          refine TC.ret ?_
          refine TX.blkR ?_
          refine TX.thenR ?_
          refine TX.done rfl (Res.one rfl rfl) (fun w hs => Post1.mk (C := [(g, .cells [.map (some mw), .map (some mn)].toArray 54 (0, 0)), (mw, mapObj kS (es) (cs)), (mn, mapObj kI (en) (cn))]) hs ?_ (Le.trans Le.close3 (by repeat (first | exact Le.refl _ | exact Le.nil _ | refine Le.hit ?_ | refine Le.hit1 ?_ | refine Le.hit2 ?_ | refine Le.hit3 ?_ | refine Le.hit4 ?_ | refine Le.hit5 ?_ | refine Le.hit6 ?_ | refine Le.hit7 ?_ | refine Le.hit8 ?_ | refine Le.hit9 ?_ | refine Le.hit10 ?_ | refine Le.skip ?_))))
          rw [add_1 (okn h34 h37) (by simp only [okPid, decide_eq_false_iff_not]; omega)]; exact ⟨rfl, mw, mn, es, cs, en, cn, rfl, hN⟩
        · refine TL.p (EvP.pickF rfl rfl) ?_
          refine TL.p (EvP.assign rfl) ?_
          refine TL.nil ?_
          refine TX.thenN rfl rfl ?_
          refine TC.cfalse rfl ?_
          refine TC.seq ?_
          refine TC.region ?_
          refine TL.p (EvP.move rfl) ?_
          refine TL.p (EvP.move rfl) ?_
          refine TL.bsplit 48 rfl (fun h48 => ?_) (fun h48 => ?_)
          · refine TL.gN rfl rfl rfl ?_
            refine TL.p (EvP.pickT rfl rfl) ?_
            refine TL.p (EvP.assign rfl) ?_
            refine TL.nil ?_
            refine TX.thenN rfl rfl ?_
            refine TC.ctrue rfl ?_
            refine TC.seq ?_
            refine TC.region ?_
            refine TL.p (EvP.assign rfl) ?_
            refine TL.nil ?_
            refine TX.thenN rfl rfl ?_
            refine TC.ret ?_
            refine TX.blkR ?_
            refine TX.thenR ?_
            refine TX.done rfl (Res.one rfl rfl) (fun w hs => Post1.mk (C := [(g, .cells [.map (some mw), .map (some mn)].toArray 54 (0, 0)), (mw, mapObj kS (es) (cs)), (mn, mapObj kI (en) (cn))]) hs ?_ (Le.trans Le.close3 (by repeat (first | exact Le.refl _ | exact Le.nil _ | refine Le.hit ?_ | refine Le.hit1 ?_ | refine Le.hit2 ?_ | refine Le.hit3 ?_ | refine Le.hit4 ?_ | refine Le.hit5 ?_ | refine Le.hit6 ?_ | refine Le.hit7 ?_ | refine Le.hit8 ?_ | refine Le.hit9 ?_ | refine Le.hit10 ?_ | refine Le.skip ?_))))
            rw [add_6 hN (okn h34 h37) (by simp only [okPid, decide_eq_true_eq]; omega) (by first | exact .inl h48 | exact .inr h46)]; exact ⟨rfl, mw, mn, es, cs, en, cn, rfl, hN⟩
          · refine TL.gY rfl rfl rfl ?_
            refine TL.p (EvP.move rfl) ?_
            refine TL.p (EvP.pickF rfl rfl) ?_
            refine TL.p (EvP.assign rfl) ?_
            refine TL.nil ?_
            refine TX.thenN rfl rfl ?_
            refine TC.cond rfl (fun h46 => ?_) (fun h46 => ?_)
            · refine TC.seq ?_
              refine TC.region ?_
              refine TL.p (EvP.assign rfl) ?_
              refine TL.nil ?_
              refine TX.thenN rfl rfl ?_
              refine TC.ret ?_
              refine TX.blkR ?_
              refine TX.thenR ?_
              refine TX.done rfl (Res.one rfl rfl) (fun w hs => Post1.mk (C := [(g, .cells [.map (some mw), .map (some mn)].toArray 54 (0, 0)), (mw, mapObj kS (es) (cs)), (mn, mapObj kI (en) (cn))]) hs ?_ (Le.trans Le.close3 (by repeat (first | exact Le.refl _ | exact Le.nil _ | refine Le.hit ?_ | refine Le.hit1 ?_ | refine Le.hit2 ?_ | refine Le.hit3 ?_ | refine Le.hit4 ?_ | refine Le.hit5 ?_ | refine Le.hit6 ?_ | refine Le.hit7 ?_ | refine Le.hit8 ?_ | refine Le.hit9 ?_ | refine Le.hit10 ?_ | refine Le.skip ?_))))
              rw [add_6 hN (okn h34 h37) (by simp only [okPid, decide_eq_true_eq]; omega) (by first | exact .inl h48 | exact .inr h46)]; exact ⟨rfl, mw, mn, es, cs, en, cn, rfl, hN⟩
            · refine TC.seq ?_
              refine TC.region ?_
              refine TL.p (EvP.move rfl) ?_
              refine TL.p (EvP.nilP rfl) ?_
              refine TL.p (EvP.fa (e := 0) rfl Tryd.runUnderlying54 rfl Tryd.sizeOf51 rfl) ?_
              refine TL.r (EvR.load rfl Tryd.isAgg51 (AtB.own (by repeat (first | exact Has.hd | refine Has.tlb ?_ | refine Has.tlc ?_))) (by rfl)) ?_
              refine TL.r (EvR.lenM (ke := kS) Tryd.runUnderlying51 rfl (AtB.own (by repeat (first | exact Has.hd | refine Has.tlb ?_ | refine Has.tlc ?_)))) ?_
              refine TL.dec (EvP.ge rfl rfl) (fun h57 => ?_) (fun h57 => ?_)
              · refine TL.p (EvP.assign rfl) ?_
                refine TL.nil ?_
                refine TX.thenN rfl rfl ?_
                refine TC.ctrue rfl ?_
                refine TC.seq ?_
                refine TC.region ?_
                refine TL.p (EvP.assign rfl) ?_
                refine TL.nil ?_
                refine TX.thenN rfl rfl ?_
                refine TC.ret ?_
                refine TX.blkR ?_
                refine TX.thenR ?_
                refine TX.done rfl (Res.one rfl rfl) (fun w hs => Post1.mk (C := [(g, .cells [.map (some mw), .map (some mn)].toArray 54 (0, 0)), (mw, mapObj kS (es) (cs)), (mn, mapObj kI (en) (cn))]) hs ?_ (Le.trans Le.close3 (by repeat (first | exact Le.refl _ | exact Le.nil _ | refine Le.hit ?_ | refine Le.hit1 ?_ | refine Le.hit2 ?_ | refine Le.hit3 ?_ | refine Le.hit4 ?_ | refine Le.hit5 ?_ | refine Le.hit6 ?_ | refine Le.hit7 ?_ | refine Le.hit8 ?_ | refine Le.hit9 ?_ | refine Le.hit10 ?_ | refine Le.skip ?_))))
                rw [add_8 hN (okn h34 h37) (by simp only [okPid, decide_eq_true_eq]; omega) (none_of h48) (none_of h46) (by omega)]; exact ⟨rfl, mw, mn, es, cs, en, cn, rfl, hN⟩
              · refine TL.p (EvP.assign rfl) ?_
                refine TL.nil ?_
                refine TX.thenN rfl rfl ?_
                refine TC.cfalse rfl ?_
                refine TC.skip ?_
                refine TX.blkN ?_
                refine TX.thenN rfl rfl ?_
                refine TC.seq ?_
                refine TC.drawn (listed := #[false, false, false, false, false, false, false, false, false, false, false, false, false, false, false, false, false, false]) 18 (SH w0 [[(g, .cells [.map (some mw), .map (some mn)].toArray 54 (0, 0))]]) rfl rfl rfl rfl (fun w hs => SH.of hs (by repeat (first | exact Le.refl _ | exact Le.nil _ | refine Le.hit ?_ | refine Le.hit1 ?_ | refine Le.hit2 ?_ | refine Le.hit3 ?_ | refine Le.hit4 ?_ | refine Le.hit5 ?_ | refine Le.hit6 ?_ | refine Le.hit7 ?_ | refine Le.hit8 ?_ | refine Le.hit9 ?_ | refine Le.hit10 ?_ | refine Le.skip ?_))) ?_
                refine TR.take 0 rfl (by kernel_rfl) (by kernel_rfl) (by kernel_rfl) (EvP.r (by exact EvP.move rfl)) (l' := #[true, false, false, false, false, false, false, false, false, false, false, false, false, false, false, false, false, false]) rfl ?_
                refine TR.take 1 rfl (by kernel_rfl) (by kernel_rfl) (by kernel_rfl) (EvP.r (by exact EvP.nilP rfl)) (l' := #[true, true, false, false, false, false, false, false, false, false, false, false, false, false, false, false, false, false]) rfl ?_
                refine TR.take 2 rfl (by kernel_rfl) (by kernel_rfl) (by kernel_rfl) (EvP.r (by exact EvP.fa (e := 0) rfl Tryd.runUnderlying54 rfl Tryd.sizeOf51 rfl)) (l' := #[true, true, true, false, false, false, false, false, false, false, false, false, false, false, false, false, false, false]) rfl ?_
                refine TR.take 3 rfl (by kernel_rfl) (by kernel_rfl) (by kernel_rfl) (EvR.load rfl Tryd.isAgg51 (AtB.own' (by repeat (first | exact Has.hd | refine Has.tlb ?_ | refine Has.tlc ?_))) (by rfl)) (l' := #[true, true, true, true, false, false, false, false, false, false, false, false, false, false, false, false, false, false]) rfl ?_
                refine TR.take 4 rfl (by kernel_rfl) (by kernel_rfl) (by kernel_rfl) (EvP.r (by exact EvP.move rfl)) (l' := #[true, true, true, true, true, false, false, false, false, false, false, false, false, false, false, false, false, false]) rfl ?_
                refine TR.take 5 rfl (by kernel_rfl) (by kernel_rfl) (by kernel_rfl) (EvP.r (by exact EvP.move rfl)) (l' := #[true, true, true, true, true, true, false, false, false, false, false, false, false, false, false, false, false, false]) rfl ?_
                refine TR.take 6 rfl (by kernel_rfl) (by kernel_rfl) (by kernel_rfl) (EvP.r (by exact EvP.nilP rfl)) (l' := #[true, true, true, true, true, true, true, false, false, false, false, false, false, false, false, false, false, false]) rfl ?_
                refine TR.take 7 rfl (by kernel_rfl) (by kernel_rfl) (by kernel_rfl) (EvP.r (by exact EvP.fa (e := 1) rfl Tryd.runUnderlying54 rfl Tryd.sizeOf52 rfl)) (l' := #[true, true, true, true, true, true, true, true, false, false, false, false, false, false, false, false, false, false]) rfl ?_
                refine TR.take 8 rfl (by kernel_rfl) (by kernel_rfl) (by kernel_rfl) (EvR.load rfl Tryd.isAgg52 (AtB.own' (by repeat (first | exact Has.hd | refine Has.tlb ?_ | refine Has.tlc ?_))) (by rfl)) (l' := #[true, true, true, true, true, true, true, true, true, false, false, false, false, false, false, false, false, false]) rfl ?_
                refine TR.take 9 rfl (by kernel_rfl) (by kernel_rfl) (by kernel_rfl) (EvP.r (by exact EvP.move rfl)) (l' := #[true, true, true, true, true, true, true, true, true, true, false, false, false, false, false, false, false, false]) rfl ?_
                refine TR.take 10 rfl (by kernel_rfl) (by kernel_rfl) (by kernel_rfl) (EvP.r (by exact EvP.move rfl)) (l' := #[true, true, true, true, true, true, true, true, true, true, true, false, false, false, false, false, false, false]) rfl ?_
                refine TR.take 11 rfl (by kernel_rfl) (by kernel_rfl) (by kernel_rfl) (EvP.r (by exact EvP.move rfl)) (l' := #[true, true, true, true, true, true, true, true, true, true, true, true, false, false, false, false, false, false]) rfl ?_
                refine TR.one (i := 12) (by kernel_rfl) ?_
                refine TRi.w rfl (EvW.entryNew (ke := kS) kSm Tryd.runUnderlying51 Tryd.zeroValue2 rfl rfl (none_of h48) (by repeat (first | exact Upd.hd | apply Upd.tlb | apply Upd.tlc))) (l' := #[true, true, true, true, true, true, true, true, true, true, true, true, true, false, false, false, false, false]) rfl ?_
                rintro _ _ ⟨rfl, rfl⟩
                refine ⟨fun w hs => SH.of hs (by repeat (first | exact Le.refl _ | exact Le.nil _ | refine Le.hit ?_ | refine Le.hit1 ?_ | refine Le.hit2 ?_ | refine Le.hit3 ?_ | refine Le.hit4 ?_ | refine Le.hit5 ?_ | refine Le.hit6 ?_ | refine Le.hit7 ?_ | refine Le.hit8 ?_ | refine Le.hit9 ?_ | refine Le.hit10 ?_ | refine Le.skip ?_)), ?_⟩
                refine TR.take 13 rfl (by kernel_rfl) (by kernel_rfl) (by kernel_rfl) (EvP.r (by exact EvP.extract rfl rfl)) (l' := #[true, true, true, true, true, true, true, true, true, true, true, true, true, true, false, false, false, false]) rfl ?_
                refine TR.one (i := 14) (by kernel_rfl) ?_
                refine TRi.u rfl (EvU.entryStore (ke := kS) rfl rfl rfl hN.ss (by repeat (first | exact Upd.hd | apply Upd.tlb | apply Upd.tlc))) (fun w hs => SH.of hs (by repeat (first | exact Le.refl _ | exact Le.nil _ | refine Le.hit ?_ | refine Le.hit1 ?_ | refine Le.hit2 ?_ | refine Le.hit3 ?_ | refine Le.hit4 ?_ | refine Le.hit5 ?_ | refine Le.hit6 ?_ | refine Le.hit7 ?_ | refine Le.hit8 ?_ | refine Le.hit9 ?_ | refine Le.hit10 ?_ | refine Le.skip ?_))) (l' := #[true, true, true, true, true, true, true, true, true, true, true, true, true, true, true, false, false, false]) rfl ?_
                refine TR.one (i := 15) (by kernel_rfl) ?_
                refine TRi.w rfl (EvW.entryNew (ke := kI) kNm Tryd.runUnderlying52 Tryd.zeroValue9 rfl rfl (none_of h46) (by repeat (first | exact Upd.hd | apply Upd.tlb | apply Upd.tlc))) (l' := #[true, true, true, true, true, true, true, true, true, true, true, true, true, true, true, true, false, false]) rfl ?_
                rintro _ _ ⟨rfl, rfl⟩
                refine ⟨fun w hs => SH.of hs (by repeat (first | exact Le.refl _ | exact Le.nil _ | refine Le.hit ?_ | refine Le.hit1 ?_ | refine Le.hit2 ?_ | refine Le.hit3 ?_ | refine Le.hit4 ?_ | refine Le.hit5 ?_ | refine Le.hit6 ?_ | refine Le.hit7 ?_ | refine Le.hit8 ?_ | refine Le.hit9 ?_ | refine Le.hit10 ?_ | refine Le.skip ?_)), ?_⟩
                refine TR.take 16 rfl (by kernel_rfl) (by kernel_rfl) (by kernel_rfl) (EvP.r (by exact EvP.extract rfl rfl)) (l' := #[true, true, true, true, true, true, true, true, true, true, true, true, true, true, true, true, true, false]) rfl ?_
                refine TR.one (i := 17) (by kernel_rfl) ?_
                refine TRi.u rfl (EvU.entryStore (ke := kI) rfl rfl rfl hN.sn (by repeat (first | exact Upd.hd | apply Upd.tlb | apply Upd.tlc))) (fun w hs => SH.of hs (by repeat (first | exact Le.refl _ | exact Le.nil _ | refine Le.hit ?_ | refine Le.hit1 ?_ | refine Le.hit2 ?_ | refine Le.hit3 ?_ | refine Le.hit4 ?_ | refine Le.hit5 ?_ | refine Le.hit6 ?_ | refine Le.hit7 ?_ | refine Le.hit8 ?_ | refine Le.hit9 ?_ | refine Le.hit10 ?_ | refine Le.skip ?_))) (l' := #[true, true, true, true, true, true, true, true, true, true, true, true, true, true, true, true, true, true]) rfl ?_
                refine TR.done (by kernel_rfl) ?_
                refine TX.thenN rfl rfl ?_
                refine TC.seq ?_
                refine TC.region ?_
                refine TL.p (EvP.assign rfl) ?_
                refine TL.nil ?_
                refine TX.thenN rfl rfl ?_
                refine TC.ret ?_
                refine TX.done rfl (Res.one rfl rfl) (fun w hs => Post1.mk (C := [(g, .cells [.map (some mw), .map (some mn)].toArray 54 (0, 0)), (mw, mapObj kS (es ++ [(s, .int .i64 p, cs)]) (cs + 1)), (mn, mapObj kI (en ++ [(p, sv s, cn)]) (cn + 1))]) hs ?_ (Le.trans Le.close3 (by repeat (first | exact Le.refl _ | exact Le.nil _ | refine Le.hit ?_ | refine Le.hit1 ?_ | refine Le.hit2 ?_ | refine Le.hit3 ?_ | refine Le.hit4 ?_ | refine Le.hit5 ?_ | refine Le.hit6 ?_ | refine Le.hit7 ?_ | refine Le.hit8 ?_ | refine Le.hit9 ?_ | refine Le.hit10 ?_ | refine Le.skip ?_))))
                obtain ⟨e1, e2⟩ := add_0 hN (okn h34 h37) (by simp only [okPid, decide_eq_true_eq]; omega) (none_of h48) (none_of h46) (by omega)
                exact ⟨by rw [e1], mw, mn, _, _, _, _, rfl, e2⟩
end Go.Proofs.YtocohlcmkbnegaaDoor
