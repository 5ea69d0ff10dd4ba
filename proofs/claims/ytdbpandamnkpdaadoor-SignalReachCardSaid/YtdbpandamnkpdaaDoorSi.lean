/-
  Spread.
-/
import Derived.Test.YtdbpandamnkpdaaDoorSh
set_option linter.unusedSimpArgs false
set_option linter.unusedVariables false
set_option maxRecDepth 100000
namespace Go.Proofs.YtdbpandamnkpdaaDoor
open Go Go.RowKit Go.Lib

theorem dm_join {d : Nat} {ms : List Nat} {H : List Chunk} : Le (DM (d :: ms) :: H) ([(d, .deferred (some []))] :: DM ms :: H) := ⟨[], by simp [DM]⟩
theorem bstep_grow {traps : List Int} {p : Int} {r : List Cl} {s : Sp} {b : Bond} : s.ds.length ≤ (bstep traps p r s b).ds.length := by
  unfold bstep
  repeat' split
  all_goals simp
theorem inI_grow {traps : List Int} {p : Int} {r : List Cl} {bs : List Bond} {s : Sp} {i : Nat} : s.ds.length ≤ (inI traps p r bs s i).ds.length := by
  unfold inI
  generalize bs.take i = l
  induction l generalizing s with
  | nil => exact Nat.le_refl _
  | cons b l ih => exact Nat.le_trans bstep_grow ih

theorem spread_nil {w0 w : World} {R : List Chunk} {a2 a3 a4 : Option Addr} {n2 n3 n4 c2 c3 c4 : Nat} (hst : St w0 w R) : Calls Tryd.prog 18 #[.pointer none, .slice a2 n2 c2, .slice a3 n3 c3, .slice a4 n4 c4] w (Post0 w0 R fun u => u = .tuple #[.slice none 0 0, .slice none 0 0, .int .i64 2]) := by
  refine calls_of (args := [_, _, _, _]) Tryd.func18 rfl Tryd.ntmps18 hst ?_
  refine TC.seq ?_
  refine TC.region ?_
  refine TL.p (EvP.assign rfl) ?_
  refine TL.p (EvP.assign rfl) ?_
  refine TL.p (EvP.assign rfl) ?_
  refine TL.nil ?_
  refine TX.thenN rfl rfl ?_
  refine TC.seq ?_
  refine TC.seq ?_
  refine TC.region ?_
  refine TL.p (EvP.move rfl) ?_
  refine TL.p (EvP.eqPtrNil Tryd.runUnderlying43 rfl rfl) ?_
  refine TL.nil ?_
  refine TX.thenN rfl rfl ?_
  refine TC.ctrue rfl ?_
  refine TC.seq ?_
  refine TC.region ?_
  refine TL.p (EvP.assign rfl) ?_
  refine TL.p (EvP.assign rfl) ?_
  refine TL.p (EvP.assign rfl) ?_
  refine TL.nil ?_
  refine TX.thenN rfl rfl ?_
  refine TC.ret ?_
  refine TX.thenR ?_
  refine TX.done rfl (Res.three rfl rfl rfl rfl) (fun w hs => Post0.mk hs rfl (by repeat (first | exact Le.refl _ | exact Le.nil _ | refine Le.hit ?_ | refine Le.hit1 ?_ | refine Le.hit2 ?_ | refine Le.hit3 ?_ | refine Le.hit4 ?_ | refine Le.hit5 ?_ | refine Le.hit6 ?_ | refine Le.hit7 ?_ | refine Le.hit8 ?_ | refine Le.hit9 ?_ | refine Le.hit10 ?_ | refine Le.skip ?_)))

theorem spread_bad {w0 w : World} {R : List Chunk} {kk : Int} {bs : List Bond} {g : Nat} {C : Chunk} {vl vt vf : Value} {live traps : List Int} {dvs : List Dv} {ds : List Dth} (hT : Tabs w0) (hG : IsG kk bs g C) (hl : Els (fun w => St w0 w R) vl 1 (one (Value.int .i64)) 2 live) (ht : Els (fun w => St w0 w R) vt 1 (one (Value.int .i64)) 2 traps) (hF : Fst (fun w => St w0 w R) vf dvs ds) (hzl : live.length ≤ 17592186044416) (hzt : traps.length ≤ 17592186044416) (hzd : dvs.length ≤ 17592186044416) (hdz : ∀ d ∈ ds, d.2.length ≤ 4398046511000) (hwr : wrongM live traps ds ≠ 0) (hst : St w0 w (C :: R)) : Calls Tryd.prog 18 #[.pointer (some ⟨g, 0, none⟩), vl, vt, vf] w (Post0 w0 (C :: R) fun u => u = .tuple #[.slice none 0 0, .slice none 0 0, .int .i64 (wrongM live traps ds)]) := by
  obtain ⟨⟨aL, cL, rfl⟩, _⟩ := id hl
  obtain ⟨⟨aT0, cT0, rfl⟩, _⟩ := id ht
  obtain ⟨aF, cF, rfl, _, _, heF, hrelF⟩ := id hF
  have hlenF := hrelF.1
  refine calls_of (args := [_, _, _, _]) Tryd.func18 rfl Tryd.ntmps18 hst ?_
  refine TC.seq ?_
  refine TC.region ?_
  refine TL.p (EvP.assign rfl) ?_
  refine TL.p (EvP.assign rfl) ?_
  refine TL.p (EvP.assign rfl) ?_
  refine TL.nil ?_
  refine TX.thenN rfl rfl ?_
  refine TC.seq ?_
  refine TC.seq ?_
  refine TC.region ?_
  refine TL.p (EvP.move rfl) ?_
  refine TL.p (EvP.eqPtrNil Tryd.runUnderlying43 rfl rfl) ?_
  refine TL.nil ?_
  refine TX.thenN rfl rfl ?_
  refine TC.cfalse rfl ?_
  refine TC.skip ?_
  refine TX.thenN rfl rfl ?_
  refine TC.seq ?_
  refine TC.seq ?_
  refine TC.region ?_
  refine TL.p (EvP.move rfl) ?_
  refine TL.p (EvP.move rfl) ?_
  refine TL.p (EvP.move rfl) ?_
  refine TL.callA rfl rfl Tryd.call38 (fun w hs => wrong_spec hT (hl.sub (Le.skip (Le.refl _))) (ht.sub (Le.skip (Le.refl _))) (hF.sub (Le.skip (Le.refl _))) hzl hzt hzd hdz hs) ?_
  rintro _ rfl
  refine TL.p (EvP.assign rfl) ?_
  refine TL.nil ?_
  refine TX.thenN rfl rfl ?_
  refine TC.seq ?_
  refine TC.region ?_
  refine TL.p (EvP.move rfl) ?_
  refine TL.p (EvP.isT (EvP.ne rfl rfl) (hwr)) ?_
  refine TL.nil ?_
  refine TX.thenN rfl rfl ?_
  refine TC.ctrue rfl ?_
  refine TC.seq ?_
  refine TC.region ?_
  refine TL.p (EvP.move rfl) ?_
  refine TL.p (EvP.assign rfl) ?_
  refine TL.p (EvP.assign rfl) ?_
  refine TL.p (EvP.assign rfl) ?_
  refine TL.nil ?_
  refine TX.thenN rfl rfl ?_
  refine TC.ret ?_
  refine TX.thenR ?_
  refine TX.done rfl (Res.three rfl rfl rfl rfl) (fun w hs => Post0.mk hs rfl (by repeat (first | exact Le.refl _ | exact Le.nil _ | refine Le.hit ?_ | refine Le.hit1 ?_ | refine Le.hit2 ?_ | refine Le.hit3 ?_ | refine Le.hit4 ?_ | refine Le.hit5 ?_ | refine Le.hit6 ?_ | refine Le.hit7 ?_ | refine Le.hit8 ?_ | refine Le.hit9 ?_ | refine Le.hit10 ?_ | refine Le.skip ?_)))

theorem spread_ok {w0 w : World} {R : List Chunk} {kk : Int} {bs : List Bond} {g : Nat} {C : Chunk} {vl vt vf : Value} {live traps : List Int} {dvs : List Dv} {ds : List Dth} (hT : Tabs w0) (hG : IsG kk bs g C) (hl : Els (fun w => St w0 w R) vl 1 (one (Value.int .i64)) 2 live) (ht : Els (fun w => St w0 w R) vt 1 (one (Value.int .i64)) 2 traps) (hF : Fst (fun w => St w0 w R) vf dvs ds) (hzl : live.length ≤ 17592186044416) (hzt : traps.length ≤ 17592186044416) (hzd : dvs.length ≤ 17592186044416) (hdz : ∀ d ∈ ds, d.2.length ≤ 4398046511000) (hwr : wrongM live traps ds = 0) (hst : St w0 w (C :: R)) : Calls Tryd.prog 18 #[.pointer (some ⟨g, 0, none⟩), vl, vt, vf] w (Post w0 R fun u Hq => ∃ Cg D E Dt Et dv tv dvs2 tvs2 s, Hq = [Cg, D, E, Dt, Et] ∧ u = .tuple #[dv, tv, .int .i64 0] ∧ (∃ K, s = spN traps (sp0 live ds, bs) K ∧ s.1.ds.length = K) ∧ SpOk (setL live).length s.1 s.2.length ∧ IsG kk s.2 g Cg ∧ Sl 48 2 Dv.enc dv dvs2 D ∧ Rel (HoldsC E) dvs2 s.1.ds ∧ Sl 67 2 Dv.enc tv tvs2 Dt ∧ Rel (HoldsC Et) tvs2 s.1.ts) := by
  obtain ⟨⟨aL, cL, rfl⟩, _⟩ := id hl
  obtain ⟨⟨aT0, cT0, rfl⟩, _⟩ := id ht
  obtain ⟨aF, cF, rfl, _, _, heF, hrelF⟩ := id hF
  have hlenF := hrelF.1
  have hll0 := hG.ok.len
  have hok0 := sp0_ok hwr (m := bs.length) hll0
  have hokF := hok0
  have hn40 := setL_len (wrong_zero hwr).1
  have hdsn : ds.length ≤ 1099511627776 := by have := hok0.len; simp only [sp0] at this; omega
  refine calls_of (args := [_, _, _, _]) Tryd.func18 rfl Tryd.ntmps18 hst ?_
  refine TC.seq ?_
  refine TC.region ?_
  refine TL.p (EvP.assign rfl) ?_
  refine TL.p (EvP.assign rfl) ?_
  refine TL.p (EvP.assign rfl) ?_
  refine TL.nil ?_
  refine TX.thenN rfl rfl ?_
  refine TC.seq ?_
  refine TC.seq ?_
  refine TC.region ?_
  refine TL.p (EvP.move rfl) ?_
  refine TL.p (EvP.eqPtrNil Tryd.runUnderlying43 rfl rfl) ?_
  refine TL.nil ?_
  refine TX.thenN rfl rfl ?_
  refine TC.cfalse rfl ?_
  refine TC.skip ?_
  refine TX.thenN rfl rfl ?_
  refine TC.seq ?_
  refine TC.seq ?_
  refine TC.region ?_
  refine TL.p (EvP.move rfl) ?_
  refine TL.p (EvP.move rfl) ?_
  refine TL.p (EvP.move rfl) ?_
  refine TL.callA rfl rfl Tryd.call38 (fun w hs => wrong_spec hT (hl.sub (Le.skip (Le.refl _))) (ht.sub (Le.skip (Le.refl _))) (hF.sub (Le.skip (Le.refl _))) hzl hzt hzd hdz hs) ?_
  rintro _ rfl
  refine TL.p (EvP.assign rfl) ?_
  refine TL.nil ?_
  refine TX.thenN rfl rfl ?_
  refine TC.seq ?_
  refine TC.region ?_
  refine TL.p (EvP.move rfl) ?_
  refine TL.p (EvP.isF (EvP.ne rfl rfl) (by simp [hwr])) ?_
  refine TL.nil ?_
  refine TX.thenN rfl rfl ?_
  refine TC.cfalse rfl ?_
  refine TC.skip ?_
  refine TX.thenN rfl rfl ?_
  refine TC.seq ?_
  refine TC.region ?_
  refine TL.makeMap kI (fun ma => ?_)
  refine TL.makeMap kI (fun mt => ?_)
  refine TL.alloc Tryd.zeroValue69 rfl (fun b12 => ?_)
  refine TL.alloc Tryd.zeroValue69 rfl (fun b13 => ?_)
  refine TL.u (EvU.store rfl rfl Tryd.sizeOf69 rfl rfl rfl rfl (by repeat (first | exact Has.hd | refine Has.tlb ?_ | refine Has.tlc ?_)) (by repeat (first | exact SetLs.nil | exact SetL.here | apply SetLs.cons | apply SetL.there)) (by repeat (first | exact Upd.hd | apply Upd.tlb | apply Upd.tlc))) ?_
  refine TL.u (EvU.store rfl rfl Tryd.sizeOf69 rfl rfl rfl rfl (by repeat (first | exact Has.hd | refine Has.tlb ?_ | refine Has.tlc ?_)) (by repeat (first | exact SetLs.nil | exact SetL.here | apply SetLs.cons | apply SetL.there)) (by repeat (first | exact Upd.hd | apply Upd.tlb | apply Upd.tlc))) ?_
  refine TL.nil ?_
  refine TX.thenN rfl rfl ?_
  refine TC.seq ?_
  refine TC.seq ?_
  refine TC.region ?_
  refine TL.p (EvP.move rfl) ?_
  refine TL.p (EvP.lenS Tryd.runUnderlying35 rfl) ?_
  refine TL.p (EvP.move rfl) ?_
  refine TL.nil ?_
  refine TX.thenN rfl rfl ?_
  refine TC.block ?_
  refine TC.loop (ι := Nat × List (Ent Int) × Nat) (fun (i, es, clk) => [(0, .pointer (some ⟨g, 0, none⟩)), (2, .slice aT0 traps.length cT0), (3, .slice aF dvs.length cF), (12, .pointer (some ⟨b12, 0, none⟩)), (13, .pointer (some ⟨b13, 0, none⟩)), (41, .slice aL live.length cL), (42, .int .i64 live.length), (43, .int .i64 i)]) (fun (i, es, clk) => C :: [(b12, .cells [.map (some ma)].toArray 69 (0, 0))] :: [(ma, mapObj kI (es) (clk))] :: [(b13, .cells [.map (some mt)].toArray 69 (0, 0))] :: [(mt, mapObj kI ([]) (0))] :: R) (fun (i, es, clk) => i ≤ live.length ∧ MOk es (setL (live.take i))) (fun (i, es, clk) => live.length - i) ((0, [], 0)) (⟨Nat.zero_le _, MOk.nil⟩) ⟨rfl, rfl, rfl, rfl, rfl, rfl, rfl, rfl, trivial⟩ (by repeat (first | exact Le.refl _ | exact Le.nil _ | refine Le.hit ?_ | refine Le.hit1 ?_ | refine Le.hit2 ?_ | refine Le.hit3 ?_ | refine Le.hit4 ?_ | refine Le.hit5 ?_ | refine Le.hit6 ?_ | refine Le.hit7 ?_ | refine Le.hit8 ?_ | refine Le.hit9 ?_ | refine Le.hit10 ?_ | refine Le.skip ?_)) ?_
  rintro ⟨i, es, clk⟩ ⟨hi, hM⟩
  change TC _ _ [(0, .pointer (some ⟨g, 0, none⟩)), (2, .slice aT0 traps.length cT0), (3, .slice aF dvs.length cF), (12, .pointer (some ⟨b12, 0, none⟩)), (13, .pointer (some ⟨b13, 0, none⟩)), (41, .slice aL live.length cL), (42, .int .i64 live.length), (43, .int .i64 i)] (C :: [(b12, .cells [.map (some ma)].toArray 69 (0, 0))] :: [(ma, mapObj kI (es) (clk))] :: [(b13, .cells [.map (some mt)].toArray 69 (0, 0))] :: [(mt, mapObj kI ([]) (0))] :: R) _
  refine TC.seq ?_
  refine TC.region ?_
  refine TL.dec (EvP.lt rfl rfl) (fun h44 => ?_) (fun h44 => ?_)
  · refine TL.nil ?_
    refine TX.thenN rfl rfl ?_
    refine TC.seq ?_
    refine TC.ctrue rfl ?_
    refine TC.skip ?_
    refine TX.thenN rfl rfl ?_
    refine TC.seq ?_
    refine TC.block ?_
    refine TC.seq ?_
    refine TC.region ?_
    have hlt : i < live.length := by omega
    obtain ⟨x, hx⟩ : ∃ x, live[i]? = some x := ⟨_, List.getElem?_eq_getElem hlt⟩
    refine TL.elem ((hl.sub (by repeat (first | exact Le.refl _ | exact Le.nil _ | refine Le.hit ?_ | refine Le.hit1 ?_ | refine Le.hit2 ?_ | refine Le.hit3 ?_ | refine Le.hit4 ?_ | refine Le.hit5 ?_ | refine Le.hit6 ?_ | refine Le.hit7 ?_ | refine Le.hit8 ?_ | refine Le.hit9 ?_ | refine Le.hit10 ?_ | refine Le.skip ?_))).elAt hx) Tryd.runUnderlying35 Tryd.sizeOf2 rfl rfl (fun bE oE lE _ _ hE hcE => ?_)
    refine TL.r (EvR.load rfl Tryd.isAgg2 hE hcE.1) ?_
    refine TL.p (EvP.assign rfl) ?_
    refine TL.nil ?_
    refine TX.thenN rfl rfl ?_
    refine TC.region ?_
    refine TL.r (EvR.load rfl Tryd.isAgg69 (AtB.own (by repeat (first | exact Has.hd | refine Has.tlb ?_ | refine Has.tlc ?_))) (by rfl)) ?_
    refine TL.p (EvP.move rfl) ?_
    by_cases hq : x ∈ setL (live.take i)
    · refine TL.u (EvU.putOld (v := .bool true) kR Tryd.runUnderlying69 rfl rfl rfl (hM.yes hq) (by repeat (first | exact Upd.hd | apply Upd.tlb | apply Upd.tlc))) ?_
      refine TL.nil ?_
      refine TX.blkN ?_
      refine TX.thenN rfl rfl ?_
      refine TC.region ?_
      refine TL.p (EvP.add rfl rfl (by omega)) ?_
      refine TL.p (EvP.move rfl) ?_
      refine TL.nil ?_
      refine TX.back ((i + 1, setE x (.bool true) es, clk)) (⟨by omega, by rw [setL_snoc hx, (hM.old hq).1, (hM.old hq).2]; exact hM⟩) (by simp only; omega) ⟨rfl, rfl, rfl, rfl, rfl, rfl, rfl, rfl, trivial⟩ (by repeat (first | exact Le.refl _ | exact Le.nil _ | refine Le.hit ?_ | refine Le.hit1 ?_ | refine Le.hit2 ?_ | refine Le.hit3 ?_ | refine Le.hit4 ?_ | refine Le.hit5 ?_ | refine Le.hit6 ?_ | refine Le.hit7 ?_ | refine Le.hit8 ?_ | refine Le.hit9 ?_ | refine Le.hit10 ?_ | refine Le.skip ?_))
    · refine TL.u (EvU.putNew (v := .bool true) kR Tryd.runUnderlying69 rfl rfl rfl (hM.no hq) (by repeat (first | exact Upd.hd | apply Upd.tlb | apply Upd.tlc))) ?_
      refine TL.nil ?_
      refine TX.blkN ?_
      refine TX.thenN rfl rfl ?_
      refine TC.region ?_
      refine TL.p (EvP.add rfl rfl (by omega)) ?_
      refine TL.p (EvP.move rfl) ?_
      refine TL.nil ?_
      refine TX.back ((i + 1, es ++ [(x, .bool true, clk)], clk + 1)) (⟨by omega, by rw [setL_snoc hx]; exact hM.add hq⟩) (by simp only; omega) ⟨rfl, rfl, rfl, rfl, rfl, rfl, rfl, rfl, trivial⟩ (by repeat (first | exact Le.refl _ | exact Le.nil _ | refine Le.hit ?_ | refine Le.hit1 ?_ | refine Le.hit2 ?_ | refine Le.hit3 ?_ | refine Le.hit4 ?_ | refine Le.hit5 ?_ | refine Le.hit6 ?_ | refine Le.hit7 ?_ | refine Le.hit8 ?_ | refine Le.hit9 ?_ | refine Le.hit10 ?_ | refine Le.skip ?_))
  · refine TL.nil ?_
    refine TX.thenN rfl rfl ?_
    refine TC.seq ?_
    refine TC.cfalse rfl ?_
    refine TC.exit ?_
    refine TX.thenE ?_
    refine TX.thenE ?_
    refine TX.blkH ?_
    refine TX.thenN rfl rfl ?_
    refine TC.seq ?_
    refine TC.seq ?_
    refine TC.region ?_
    rw [List.take_of_length_le (by omega)] at hM
    refine TL.p (EvP.move rfl) ?_
    refine TL.p (EvP.lenS Tryd.runUnderlying35 rfl) ?_
    refine TL.p (EvP.move rfl) ?_
    refine TL.nil ?_
    refine TX.thenN rfl rfl ?_
    refine TC.block ?_
    refine TC.loop (ι := Nat × List (Ent Int) × Nat) (fun (i, et, clt) => [(0, .pointer (some ⟨g, 0, none⟩)), (3, .slice aF dvs.length cF), (12, .pointer (some ⟨b12, 0, none⟩)), (13, .pointer (some ⟨b13, 0, none⟩)), (50, .slice aT0 traps.length cT0), (51, .int .i64 traps.length), (52, .int .i64 i)]) (fun (i, et, clt) => C :: [(b12, .cells [.map (some ma)].toArray 69 (0, 0))] :: [(ma, mapObj kI (es) (clk))] :: [(b13, .cells [.map (some mt)].toArray 69 (0, 0))] :: [(mt, mapObj kI (et) (clt))] :: R) (fun (i, et, clt) => i ≤ traps.length ∧ MOk et (setL (traps.take i))) (fun (i, et, clt) => traps.length - i) ((0, [], 0)) (⟨Nat.zero_le _, MOk.nil⟩) ⟨rfl, rfl, rfl, rfl, rfl, rfl, rfl, trivial⟩ (by repeat (first | exact Le.refl _ | exact Le.nil _ | refine Le.hit ?_ | refine Le.hit1 ?_ | refine Le.hit2 ?_ | refine Le.hit3 ?_ | refine Le.hit4 ?_ | refine Le.hit5 ?_ | refine Le.hit6 ?_ | refine Le.hit7 ?_ | refine Le.hit8 ?_ | refine Le.hit9 ?_ | refine Le.hit10 ?_ | refine Le.skip ?_)) ?_
    rintro ⟨i, et, clt⟩ ⟨hi, hMt⟩
    change TC _ _ [(0, .pointer (some ⟨g, 0, none⟩)), (3, .slice aF dvs.length cF), (12, .pointer (some ⟨b12, 0, none⟩)), (13, .pointer (some ⟨b13, 0, none⟩)), (50, .slice aT0 traps.length cT0), (51, .int .i64 traps.length), (52, .int .i64 i)] (C :: [(b12, .cells [.map (some ma)].toArray 69 (0, 0))] :: [(ma, mapObj kI (es) (clk))] :: [(b13, .cells [.map (some mt)].toArray 69 (0, 0))] :: [(mt, mapObj kI (et) (clt))] :: R) _
    refine TC.seq ?_
    refine TC.region ?_
    refine TL.dec (EvP.lt rfl rfl) (fun h53 => ?_) (fun h53 => ?_)
    · refine TL.nil ?_
      refine TX.thenN rfl rfl ?_
      refine TC.seq ?_
      refine TC.ctrue rfl ?_
      refine TC.skip ?_
      refine TX.thenN rfl rfl ?_
      refine TC.seq ?_
      refine TC.block ?_
      refine TC.seq ?_
      refine TC.region ?_
      have hlt : i < traps.length := by omega
      obtain ⟨x, hx⟩ : ∃ x, traps[i]? = some x := ⟨_, List.getElem?_eq_getElem hlt⟩
      refine TL.elem ((ht.sub (by repeat (first | exact Le.refl _ | exact Le.nil _ | refine Le.hit ?_ | refine Le.hit1 ?_ | refine Le.hit2 ?_ | refine Le.hit3 ?_ | refine Le.hit4 ?_ | refine Le.hit5 ?_ | refine Le.hit6 ?_ | refine Le.hit7 ?_ | refine Le.hit8 ?_ | refine Le.hit9 ?_ | refine Le.hit10 ?_ | refine Le.skip ?_))).elAt hx) Tryd.runUnderlying35 Tryd.sizeOf2 rfl rfl (fun bE oE lE _ _ hE hcE => ?_)
      refine TL.r (EvR.load rfl Tryd.isAgg2 hE hcE.1) ?_
      refine TL.p (EvP.assign rfl) ?_
      refine TL.nil ?_
      refine TX.thenN rfl rfl ?_
      refine TC.region ?_
      refine TL.r (EvR.load rfl Tryd.isAgg69 (AtB.own (by repeat (first | exact Has.hd | refine Has.tlb ?_ | refine Has.tlc ?_))) (by rfl)) ?_
      refine TL.p (EvP.move rfl) ?_
      by_cases hq : x ∈ setL (traps.take i)
      · refine TL.u (EvU.putOld (v := .bool true) kR Tryd.runUnderlying69 rfl rfl rfl (hMt.yes hq) (by repeat (first | exact Upd.hd | apply Upd.tlb | apply Upd.tlc))) ?_
        refine TL.nil ?_
        refine TX.blkN ?_
        refine TX.thenN rfl rfl ?_
        refine TC.region ?_
        refine TL.p (EvP.add rfl rfl (by omega)) ?_
        refine TL.p (EvP.move rfl) ?_
        refine TL.nil ?_
        refine TX.back ((i + 1, setE x (.bool true) et, clt)) (⟨by omega, by rw [setL_snoc hx, (hMt.old hq).1, (hMt.old hq).2]; exact hMt⟩) (by simp only; omega) ⟨rfl, rfl, rfl, rfl, rfl, rfl, rfl, trivial⟩ (by repeat (first | exact Le.refl _ | exact Le.nil _ | refine Le.hit ?_ | refine Le.hit1 ?_ | refine Le.hit2 ?_ | refine Le.hit3 ?_ | refine Le.hit4 ?_ | refine Le.hit5 ?_ | refine Le.hit6 ?_ | refine Le.hit7 ?_ | refine Le.hit8 ?_ | refine Le.hit9 ?_ | refine Le.hit10 ?_ | refine Le.skip ?_))
      · refine TL.u (EvU.putNew (v := .bool true) kR Tryd.runUnderlying69 rfl rfl rfl (hMt.no hq) (by repeat (first | exact Upd.hd | apply Upd.tlb | apply Upd.tlc))) ?_
        refine TL.nil ?_
        refine TX.blkN ?_
        refine TX.thenN rfl rfl ?_
        refine TC.region ?_
        refine TL.p (EvP.add rfl rfl (by omega)) ?_
        refine TL.p (EvP.move rfl) ?_
        refine TL.nil ?_
        refine TX.back ((i + 1, et ++ [(x, .bool true, clt)], clt + 1)) (⟨by omega, by rw [setL_snoc hx]; exact hMt.add hq⟩) (by simp only; omega) ⟨rfl, rfl, rfl, rfl, rfl, rfl, rfl, trivial⟩ (by repeat (first | exact Le.refl _ | exact Le.nil _ | refine Le.hit ?_ | refine Le.hit1 ?_ | refine Le.hit2 ?_ | refine Le.hit3 ?_ | refine Le.hit4 ?_ | refine Le.hit5 ?_ | refine Le.hit6 ?_ | refine Le.hit7 ?_ | refine Le.hit8 ?_ | refine Le.hit9 ?_ | refine Le.hit10 ?_ | refine Le.skip ?_))
    · refine TL.nil ?_
      refine TX.thenN rfl rfl ?_
      refine TC.seq ?_
      refine TC.cfalse rfl ?_
      refine TC.exit ?_
      refine TX.thenE ?_
      refine TX.thenE ?_
      refine TX.blkH ?_
      refine TX.thenN rfl rfl ?_
      refine TC.seq ?_
      refine TC.region ?_
      rw [List.take_of_length_le (by omega)] at hMt
      refine TL.alloc Tryd.zeroValue36 rfl (fun b18 => ?_)
      refine TL.nil ?_
      refine TX.thenN rfl rfl ?_
      refine TC.seq ?_
      refine TC.region ?_
      refine TL.alloc Tryd.zeroValue39 rfl (fun b19 => ?_)
      refine TL.nil ?_
      refine TX.thenN rfl rfl ?_
      refine TC.seq ?_
      refine TC.region ?_
      refine TL.p (EvP.makeFunc rfl rfl) ?_
      refine TL.alloc Tryd.zeroValue70 rfl (fun b20 => ?_)
      refine TL.u (EvU.store rfl rfl Tryd.sizeOf70 rfl rfl rfl rfl (by repeat (first | exact Has.hd | refine Has.tlb ?_ | refine Has.tlc ?_)) (by repeat (first | exact SetLs.nil | exact SetL.here | apply SetLs.cons | apply SetL.there)) (by repeat (first | exact Upd.hd | apply Upd.tlb | apply Upd.tlc))) ?_
      refine TL.nil ?_
      refine TX.thenN rfl rfl ?_
      refine TC.seq ?_
      refine TC.seq ?_
      refine TC.region ?_
      refine TL.le Le.nilC ?_
      refine TL.le Le.nilC ?_
      refine TL.p (EvP.move rfl) ?_
      refine TL.p (EvP.lenS Tryd.runUnderlying36 rfl) ?_
      refine TL.p (EvP.move rfl) ?_
      refine TL.nil ?_
      refine TX.thenN rfl rfl ?_
      refine TC.block ?_
      refine TC.loop (ι := Nat × List (Ent Int) × Chunk × Chunk × Chunk) (fun (i, es, X, D, E) => [(0, .pointer (some ⟨g, 0, none⟩)), (3, .slice aF dvs.length cF), (12, .pointer (some ⟨b12, 0, none⟩)), (13, .pointer (some ⟨b13, 0, none⟩)), (18, .pointer (some ⟨b18, 0, none⟩)), (19, .pointer (some ⟨b19, 0, none⟩)), (20, .pointer (some ⟨b20, 0, none⟩)), (60, .slice aF dvs.length cF), (61, .int .i64 dvs.length), (62, .int .i64 i)]) (fun (i, es, X, D, E) => C :: [(b12, .cells [.map (some ma)].toArray 69 (0, 0))] :: [(ma, mapObj kI (es) (clk))] :: [(b13, .cells [.map (some mt)].toArray 69 (0, 0))] :: [(mt, mapObj kI (et) (clt))] :: X :: D :: E :: [(b19, .cells [.slice none 0 0].toArray 39 (0, 0))] :: [(b20, .cells [.func (.func 39) #[] #[.pointer (some ⟨b12, 0, none⟩), .pointer (some ⟨b18, 0, none⟩)]].toArray 70 (0, 0))] :: R) (fun (i, es, X, D, E) => i ≤ dvs.length ∧ MOk es (dieL live (ds.take i)) ∧ DB b18 36 48 (ds.take i) X D E) (fun (i, es, X, D, E) => dvs.length - i) ((0, es, [(b18, .cells [.slice none 0 0].toArray 36 (0, 0))], [], [])) (⟨Nat.zero_le _, hM, DB.nil⟩) ⟨rfl, rfl, rfl, rfl, rfl, rfl, rfl, rfl, rfl, rfl, trivial⟩ (by repeat (first | exact Le.refl _ | exact Le.nil _ | refine Le.hit ?_ | refine Le.hit1 ?_ | refine Le.hit2 ?_ | refine Le.hit3 ?_ | refine Le.hit4 ?_ | refine Le.hit5 ?_ | refine Le.hit6 ?_ | refine Le.hit7 ?_ | refine Le.hit8 ?_ | refine Le.hit9 ?_ | refine Le.hit10 ?_ | refine Le.skip ?_)) ?_
      rintro ⟨i, es, X, D, E⟩ ⟨hi, hM, hX⟩
      change TC _ _ [(0, .pointer (some ⟨g, 0, none⟩)), (3, .slice aF dvs.length cF), (12, .pointer (some ⟨b12, 0, none⟩)), (13, .pointer (some ⟨b13, 0, none⟩)), (18, .pointer (some ⟨b18, 0, none⟩)), (19, .pointer (some ⟨b19, 0, none⟩)), (20, .pointer (some ⟨b20, 0, none⟩)), (60, .slice aF dvs.length cF), (61, .int .i64 dvs.length), (62, .int .i64 i)] (C :: [(b12, .cells [.map (some ma)].toArray 69 (0, 0))] :: [(ma, mapObj kI (es) (clk))] :: [(b13, .cells [.map (some mt)].toArray 69 (0, 0))] :: [(mt, mapObj kI (et) (clt))] :: X :: D :: E :: [(b19, .cells [.slice none 0 0].toArray 39 (0, 0))] :: [(b20, .cells [.func (.func 39) #[] #[.pointer (some ⟨b12, 0, none⟩), .pointer (some ⟨b18, 0, none⟩)]].toArray 70 (0, 0))] :: R) _
      refine TC.seq ?_
      refine TC.region ?_
      refine TL.dec (EvP.lt rfl rfl) (fun h63 => ?_) (fun h63 => ?_)
      · refine TL.nil ?_
        refine TX.thenN rfl rfl ?_
        refine TC.seq ?_
        refine TC.ctrue rfl ?_
        refine TC.skip ?_
        refine TX.thenN rfl rfl ?_
        refine TC.seq ?_
        refine TC.block ?_
        refine TC.seq ?_
        refine TC.region ?_
        have hlt : i < dvs.length := by omega
        obtain ⟨x, hx⟩ : ∃ x, dvs[i]? = some x := ⟨_, List.getElem?_eq_getElem hlt⟩
        obtain ⟨d, hd, hp, hr⟩ := hrelF.at hx
        have hdl := hokF.dok d (List.mem_of_getElem? hd)
        have hde : (x.p, d.2) = d := by rw [hp]
        refine TL.elem ((heF.sub (by repeat (first | exact Le.refl _ | exact Le.nil _ | refine Le.hit ?_ | refine Le.hit1 ?_ | refine Le.hit2 ?_ | refine Le.hit3 ?_ | refine Le.hit4 ?_ | refine Le.hit5 ?_ | refine Le.hit6 ?_ | refine Le.hit7 ?_ | refine Le.hit8 ?_ | refine Le.hit9 ?_ | refine Le.hit10 ?_ | refine Le.skip ?_))).elAt hx) Tryd.runUnderlying36 Tryd.sizeOf48 rfl rfl (fun bE oE lE _ _ hE hcE => ?_)
        refine TL.r (EvR.loadN (vs := [_, _]) rfl Tryd.isAgg48 Tryd.sizeOf48 hE hcE) ?_
        refine TL.alloc Tryd.zeroValue48 rfl (fun b22 => ?_)
        refine TL.u (EvU.store rfl rfl Tryd.sizeOf48 rfl rfl rfl rfl (by repeat (first | exact Has.hd | refine Has.tlb ?_ | refine Has.tlc ?_)) (by repeat (first | exact SetLs.nil | exact SetL.here | apply SetLs.cons | apply SetL.there)) (by repeat (first | exact Upd.hd | apply Upd.tlb | apply Upd.tlc))) ?_
        refine TL.nil ?_
        refine TX.thenN rfl rfl ?_
        refine TC.region ?_
        refine TL.r (EvR.load rfl Tryd.isAgg70 (AtB.own (by repeat (first | exact Has.hd | refine Has.tlb ?_ | refine Has.tlc ?_))) (by rfl)) ?_
        refine TL.p (EvP.fa (e := 0) rfl Tryd.runUnderlying48 rfl Tryd.sizeOf2 rfl) ?_
        refine TL.r (EvR.load rfl Tryd.isAgg2 (AtB.own (by repeat (first | exact Has.hd | refine Has.tlb ?_ | refine Has.tlc ?_))) (by rfl)) ?_
        refine TL.p (EvP.fa (e := 1) rfl Tryd.runUnderlying48 rfl Tryd.sizeOf22 rfl) ?_
        refine TL.r (EvR.load rfl Tryd.isAgg22 (AtB.own (by repeat (first | exact Has.hd | refine Has.tlb ?_ | refine Has.tlc ?_))) (by rfl)) ?_
        refine TL.le (Le.hit2 (Le.hit2 (Le.hit4 (Le.hit4 (Le.hit4 (Le.refl _)))))) ?_
        refine TL.call rfl rfl Tryd.call39 (fun w hs => die_spec x.p hM hX (hr.sub (by repeat (first | exact Le.refl _ | exact Le.nil _ | refine Le.hit ?_ | refine Le.hit1 ?_ | refine Le.hit2 ?_ | refine Le.hit3 ?_ | refine Le.hit4 ?_ | refine Le.hit5 ?_ | refine Le.hit6 ?_ | refine Le.hit7 ?_ | refine Le.hit8 ?_ | refine Le.hit9 ?_ | refine Le.hit10 ?_ | refine Le.skip ?_))) (by omega) (by rw [List.length_take]; omega) hs) ?_
        rintro _ _ ⟨M2, X2, D2, E2, es2, rfl, rfl, hM2, hX2, hE2⟩
        refine TL.nil ?_
        refine TX.blkN ?_
        refine TX.thenN rfl rfl ?_
        refine TC.region ?_
        refine TL.p (EvP.add rfl rfl (by omega)) ?_
        refine TL.p (EvP.move rfl) ?_
        refine TL.nil ?_
        refine TX.back ((i + 1, es2, X2, D2, E2)) (⟨by omega, by rw [dieL_snoc hd, ← hp]; exact hM2, by rw [take_snoc hd, ← hde]; exact hX2⟩) (by simp only; omega) ⟨rfl, rfl, rfl, rfl, rfl, rfl, rfl, rfl, rfl, rfl, trivial⟩ (by repeat (first | exact Le.refl _ | exact Le.nil _ | refine Le.hit ?_ | refine Le.hit1 ?_ | refine Le.hit2 ?_ | refine Le.hit3 ?_ | refine Le.hit4 ?_ | refine Le.hit5 ?_ | refine Le.hit6 ?_ | refine Le.hit7 ?_ | refine Le.hit8 ?_ | refine Le.hit9 ?_ | refine Le.hit10 ?_ | refine Le.skip ?_))
      · refine TL.nil ?_
        refine TX.thenN rfl rfl ?_
        refine TC.seq ?_
        refine TC.cfalse rfl ?_
        refine TC.exit ?_
        refine TX.thenE ?_
        refine TX.thenE ?_
        refine TX.blkH ?_
        refine TX.thenN rfl rfl ?_
        refine TC.seq ?_
        refine TC.seq ?_
        refine TC.region ?_
        rw [List.take_of_length_le (by omega)] at hM hX
        refine TL.p (EvP.assign rfl) ?_
        refine TL.nil ?_
        refine TX.thenN rfl rfl ?_
        refine TC.block ?_
        refine TC.loopM (ι := Nat × List Nat × Chunk × List (Ent Int) × Chunk × Chunk × Chunk × Chunk × Chunk × Chunk) (fun (k, ms, Cg, es, X, D, E, Xt, Dt, Et) => ms.map mark) (fun (k, ms, Cg, es, X, D, E, Xt, Dt, Et) => [(0, .pointer (some ⟨g, 0, none⟩)), (12, .pointer (some ⟨b12, 0, none⟩)), (13, .pointer (some ⟨b13, 0, none⟩)), (18, .pointer (some ⟨b18, 0, none⟩)), (19, .pointer (some ⟨b19, 0, none⟩)), (20, .pointer (some ⟨b20, 0, none⟩)), (23, .int .i64 k)]) (fun (k, ms, Cg, es, X, D, E, Xt, Dt, Et) => Cg :: [(b12, .cells [.map (some ma)].toArray 69 (0, 0))] :: [(ma, mapObj kI (es) (clk))] :: [(b13, .cells [.map (some mt)].toArray 69 (0, 0))] :: [(mt, mapObj kI (et) (clt))] :: X :: D :: E :: Xt :: Dt :: Et :: [(b20, .cells [.func (.func 39) #[] #[.pointer (some ⟨b12, 0, none⟩), .pointer (some ⟨b18, 0, none⟩)]].toArray 70 (0, 0))] :: DM ms :: R) (fun (k, ms, Cg, es, X, D, E, Xt, Dt, Et) => k ≤ (spN traps (sp0 live ds, bs) k).1.ds.length ∧ MOk es (spN traps (sp0 live ds, bs) k).1.al ∧ DB b18 36 48 (spN traps (sp0 live ds, bs) k).1.ds X D E ∧ DB b19 39 67 (spN traps (sp0 live ds, bs) k).1.ts Xt Dt Et ∧ IsG kk (spN traps (sp0 live ds, bs) k).2 g Cg) (fun (k, ms, Cg, es, X, D, E, Xt, Dt, Et) => (setL live).length - k) (0, [], C, es, X, D, E, [(b19, .cells [.slice none 0 0].toArray 39 (0, 0))], [], []) ⟨Nat.zero_le _, hM, hX, DB.nil, hG⟩ rfl ⟨rfl, rfl, rfl, rfl, rfl, rfl, rfl, trivial⟩ (by repeat (first | exact Le.refl _ | exact Le.nil _ | refine Le.hit ?_ | refine Le.hit1 ?_ | refine Le.hit2 ?_ | refine Le.hit3 ?_ | refine Le.hit4 ?_ | refine Le.hit5 ?_ | refine Le.hit6 ?_ | refine Le.hit7 ?_ | refine Le.hit8 ?_ | refine Le.hit9 ?_ | refine Le.hit10 ?_ | refine Le.skip ?_)) ?_
        rintro ⟨k, ms, Cg, es, X, D, E, Xt, Dt, Et⟩ ⟨hk, hM, hX, hXt, hG⟩
        obtain ⟨s, hsk⟩ : ∃ s, s = spN traps (sp0 live ds, bs) k := ⟨_, rfl⟩
        have hok := spN_ok (traps := traps) (s := (sp0 live ds, bs)) hok0 k
        rw [← hsk] at hk hM hX hXt hG hok
        obtain ⟨a8, c8, dvs8, rfl, hS8, hR8⟩ := hX
        obtain ⟨a9, c9, dvs9, rfl, hS9, hR9⟩ := hXt
        have h8 := hR8.1
        have hokl := hok.len
        change TC (Cx.at_ _ (ms.map mark)) _ [(0, .pointer (some ⟨g, 0, none⟩)), (12, .pointer (some ⟨b12, 0, none⟩)), (13, .pointer (some ⟨b13, 0, none⟩)), (18, .pointer (some ⟨b18, 0, none⟩)), (19, .pointer (some ⟨b19, 0, none⟩)), (20, .pointer (some ⟨b20, 0, none⟩)), (23, .int .i64 k)] (Cg :: [(b12, .cells [.map (some ma)].toArray 69 (0, 0))] :: [(ma, mapObj kI (es) (clk))] :: [(b13, .cells [.map (some mt)].toArray 69 (0, 0))] :: [(mt, mapObj kI (et) (clt))] :: [(b18, .cells [.slice a8 dvs8.length c8].toArray 36 (0, 0))] :: D :: E :: [(b19, .cells [.slice a9 dvs9.length c9].toArray 39 (0, 0))] :: Dt :: Et :: [(b20, .cells [.func (.func 39) #[] #[.pointer (some ⟨b12, 0, none⟩), .pointer (some ⟨b18, 0, none⟩)]].toArray 70 (0, 0))] :: DM ms :: R) _
        refine TC.seq ?_
        refine TC.seq ?_
        refine TC.region ?_
        refine TL.p (EvP.move rfl) ?_
        refine TL.r (EvR.load rfl Tryd.isAgg36 (AtB.own (by repeat (first | exact Has.hd | refine Has.tlb ?_ | refine Has.tlc ?_))) (by rfl)) ?_
        refine TL.p (EvP.lenS Tryd.runUnderlying36 rfl) ?_
        refine TL.dec (EvP.lt rfl rfl) (fun h76 => ?_) (fun h76 => ?_)
        · refine TL.nil ?_
          refine TX.thenN rfl rfl ?_
          refine TC.ctrue rfl ?_
          refine TC.skip ?_
          refine TX.thenN rfl rfl ?_
          refine TC.seq ?_
          refine TC.block ?_
          refine TC.scope ?_
          refine TC.seq ?_
          refine TC.region ?_
          refine TL.r (EvR.load rfl Tryd.isAgg36 (AtB.own (by repeat (first | exact Has.hd | refine Has.tlb ?_ | refine Has.tlc ?_))) (by rfl)) ?_
          refine TL.p (EvP.move rfl) ?_
          have hlt : k < dvs8.length := by omega
          obtain ⟨y, hy⟩ : ∃ y, dvs8[k]? = some y := ⟨_, List.getElem?_eq_getElem hlt⟩
          obtain ⟨d, hkd, hyp, hyr⟩ := hR8.at hy
          have hdok := hok.dok d (List.mem_of_getElem? hkd)
          have hll := hG.ok.len
          refine TL.elem (hS8.el encD_ok hy (by simp)) Tryd.runUnderlying36 Tryd.sizeOf48 rfl rfl (fun bE oE lE _ _ hE hcE => ?_)
          refine TL.r (EvR.loadN (vs := [_, _]) rfl Tryd.isAgg48 Tryd.sizeOf48 hE hcE) ?_
          refine TL.alloc Tryd.zeroValue48 rfl (fun b24 => ?_)
          refine TL.u (EvU.store rfl rfl Tryd.sizeOf48 rfl rfl rfl rfl (by repeat (first | exact Has.hd | refine Has.tlb ?_ | refine Has.tlc ?_)) (by repeat (first | exact SetLs.nil | exact SetL.here | apply SetLs.cons | apply SetL.there)) (by repeat (first | exact Upd.hd | apply Upd.tlb | apply Upd.tlc))) ?_
          refine TL.nil ?_
          refine TX.thenN rfl rfl ?_
          refine TC.seq ?_
          refine TC.region ?_
          refine TL.p (EvP.move rfl) ?_
          refine TL.p (EvP.fa (e := 0) rfl Tryd.runUnderlying48 rfl Tryd.sizeOf2 rfl) ?_
          refine TL.r (EvR.load rfl Tryd.isAgg2 (AtB.own (by repeat (first | exact Has.hd | refine Has.tlb ?_ | refine Has.tlc ?_))) (by rfl)) ?_
          refine TL.le (Le.hit1 (Le.refl _)) ?_
          refine TL.callC rfl rfl Tryd.call40 (fun w hs => g_end hG y.p (by rw [hyp]; exact hdok.1) hs) ?_
          rintro _ C2 DT ⟨t9, rfl, ht9, hG2⟩
          rw [hyp] at ht9 hG2
          have hspl := endT_split (L := s.2) (p := d.1)
          obtain ⟨aT, cT, rfl, _, _⟩ := id ht9.len
          have hok1 : SpOk (setL live).length s.1 ((endT s.2 d.1).length + (endL s.2 d.1).length) := ⟨hok.nd, hok.len, by have := hok.ts; omega, hok.ok, hok.dok⟩
          refine TL.p (EvP.move rfl) ?_
          refine TL.p (EvP.extract rfl rfl) ?_
          refine TL.p (EvP.extract rfl rfl) ?_
          refine TL.p (EvP.assign rfl) ?_
          refine TL.p (EvP.assign rfl) ?_
          refine TL.nil ?_
          refine TX.thenN rfl rfl ?_
          refine TC.seq ?_
          refine TC.label ?_
          refine TX.thenN rfl rfl ?_
          refine TC.seq ?_
          refine TC.region ?_
          refine TL.p (EvP.move rfl) ?_
          refine TL.callB rfl rfl Tryd.call41 (fun w hs => values_spec hs) ?_
          rintro _ _ ⟨b1, rfl, rfl⟩
          refine TL.nil ?_
          refine TX.thenN rfl rfl ?_
          refine TC.block ?_
          refine TC.le (H' := [(b1, Obj.cells [Value.slice aT (endT s.2 d.1).length cT].toArray 71 (0, 0))] :: DT :: [(b12, .cells [.map (some ma)].toArray 69 (0, 0))] :: [(ma, mapObj kI (es) (clk))] :: [(b18, .cells [.slice a8 dvs8.length c8].toArray 36 (0, 0))] :: D :: E :: [(b19, .cells [.slice a9 dvs9.length c9].toArray 39 (0, 0))] :: Dt :: Et :: C2 :: [(b13, .cells [.map (some mt)].toArray 69 (0, 0))] :: [(mt, mapObj kI (et) (clt))] :: [(b20, .cells [.func (.func 39) #[] #[.pointer (some ⟨b12, 0, none⟩), .pointer (some ⟨b18, 0, none⟩)]].toArray 70 (0, 0))] :: [(b24, .cells y.enc.toArray 48 (0, 0))] :: DM ms :: R) (by repeat (first | exact Le.refl _ | exact Le.nil _ | refine Le.hit ?_ | refine Le.hit1 ?_ | refine Le.hit2 ?_ | refine Le.hit3 ?_ | refine Le.hit4 ?_ | refine Le.hit5 ?_ | refine Le.hit6 ?_ | refine Le.hit7 ?_ | refine Le.hit8 ?_ | refine Le.hit9 ?_ | refine Le.hit10 ?_ | refine Le.skip ?_)) ?_
          refine TC.rangeF (Hit := [[(b1, Obj.cells [Value.slice aT (endT s.2 d.1).length cT].toArray 71 (0, 0))], DT]) (R0 := [(b12, .cells [.map (some ma)].toArray 69 (0, 0))] :: [(ma, mapObj kI (es) (clk))] :: [(b18, .cells [.slice a8 dvs8.length c8].toArray 36 (0, 0))] :: D :: E :: [(b19, .cells [.slice a9 dvs9.length c9].toArray 39 (0, 0))] :: Dt :: Et :: C2 :: [(b13, .cells [.map (some mt)].toArray 69 (0, 0))] :: [(mt, mapObj kI (et) (clt))] :: [(b20, .cells [.func (.func 39) #[] #[.pointer (some ⟨b12, 0, none⟩), .pointer (some ⟨b18, 0, none⟩)]].toArray 70 (0, 0))] :: [(b24, .cells y.enc.toArray 48 (0, 0))] :: DM ms :: R) rfl rfl Tryd.call61 (iter_values ht9 (by omega)) (by intro x hx; obtain ⟨b, _, rfl⟩ := List.mem_map.1 hx; rfl) rfl (Le.refl _)
            (fun i R2 => ∃ es X D E Xt Dt Et sI, R2 = ([(b12, .cells [.map (some ma)].toArray 69 (0, 0))] :: [(ma, mapObj kI (es) (clk))] :: X :: D :: E :: Xt :: Dt :: Et :: C2 :: [(b13, .cells [.map (some mt)].toArray 69 (0, 0))] :: [(mt, mapObj kI (et) (clt))] :: [(b20, .cells [.func (.func 39) #[] #[.pointer (some ⟨b12, 0, none⟩), .pointer (some ⟨b18, 0, none⟩)]].toArray 70 (0, 0))] :: [(b24, .cells y.enc.toArray 48 (0, 0))] :: DM ms :: R) ∧ sI = inI traps d.1 d.2 (endT s.2 d.1) s.1 i ∧ MOk es sI.al ∧ DB b18 36 48 sI.ds X D E ∧ DB b19 39 67 sI.ts Xt Dt Et ∧ Els (HoldsC E) y.sl 3 Cl.enc 57 d.2)
            (fun j R2 => False) ⟨es, _, D, E, _, Dt, Et, s.1, rfl, rfl, hM, ⟨_, _, _, rfl, hS8, hR8⟩, ⟨_, _, _, rfl, hS9, hR9⟩, hyr⟩ ?_ ?_ ?_
          · clear hS9 hR9 hR8 hS8 hM hyr
            rintro l i x _ HL HL2 hx ⟨es, X, D, E, Xt, Dt, Et, sI, rfl, hsI, hM, hX, hXt, hyr⟩
            obtain ⟨b, hb, rfl⟩ : ∃ b, (endT s.2 d.1)[i]? = some b ∧ x = [b.v] := by rw [List.getElem?_map, Option.map_eq_some_iff] at hx; obtain ⟨b, h1, h2⟩ := hx; exact ⟨b, h1, h2.symm⟩
            have hlti := (List.getElem?_eq_some_iff.1 hb).1
            have hokI := inI_ok (traps := traps) (p := d.1) (i := i) hok1 hdok.2 (by omega)
            have hnx := inI_step (traps := traps) (p := d.1) (r := d.2) (s := s.1) hb
            rw [← hsI] at hnx hokI
            have hokl2 := hokI.len
            have hokt := hokI.ts
            obtain ⟨a7, c7, dvs7, rfl, hS7, hR7⟩ := hXt
            have h7 := hR7.1
            refine TC.region ?_
            refine TL.alloc Tryd.zeroValue78 rfl (fun b27 => ?_)
            refine TL.u (EvU.store rfl rfl Tryd.sizeOf78 rfl rfl rfl rfl (by repeat (first | exact Has.hd | refine Has.tlb ?_ | refine Has.tlc ?_)) (by repeat (first | exact SetLs.nil | exact SetL.here | apply SetLs.cons | apply SetL.there)) (by repeat (first | exact Upd.hd | apply Upd.tlb | apply Upd.tlc))) ?_
            refine TL.nil ?_
            refine TX.begin (R2 := [(b27, .cells b.enc.toArray 78 (0, 0))] :: [(b12, .cells [.map (some ma)].toArray 69 (0, 0))] :: [(ma, mapObj kI (es) (clk))] :: X :: D :: E :: [(b19, .cells [.slice a7 dvs7.length c7].toArray 39 (0, 0))] :: Dt :: Et :: C2 :: [(b13, .cells [.map (some mt)].toArray 69 (0, 0))] :: [(mt, mapObj kI (et) (clt))] :: [(b20, .cells [.func (.func 39) #[] #[.pointer (some ⟨b12, 0, none⟩), .pointer (some ⟨b18, 0, none⟩)]].toArray 70 (0, 0))] :: [(b24, .cells y.enc.toArray 48 (0, 0))] :: DM ms :: R) ?_
            refine TC.block ?_
            refine TC.seq ?_
            refine TC.region ?_
            refine TL.p (EvP.fa (e := 0) rfl Tryd.runUnderlying78 rfl Tryd.sizeOf2 rfl) ?_
            refine TL.r (EvR.load rfl Tryd.isAgg2 (AtB.own (by repeat (first | exact Has.hd | refine Has.tlb ?_ | refine Has.tlc ?_))) (by rfl)) ?_
            refine TL.p (EvP.assign rfl) ?_
            refine TL.nil ?_
            refine TX.thenN rfl rfl ?_
            refine TC.seq ?_
            refine TC.seq ?_
            refine TC.region ?_
            refine TL.p (EvP.move rfl) ?_
            refine TL.p (EvP.fa (e := 0) rfl Tryd.runUnderlying48 rfl Tryd.sizeOf2 rfl) ?_
            refine TL.r (EvR.load rfl Tryd.isAgg2 (AtB.own (by repeat (first | exact Has.hd | refine Has.tlb ?_ | refine Has.tlc ?_))) (by rfl)) ?_
            refine TL.dec (EvP.eq rfl rfl) (fun h98 => ?_) (fun h98 => ?_)
            · refine TL.nil ?_
              refine TX.thenN rfl rfl ?_
              refine TC.ctrue rfl ?_
              refine TC.region ?_
              refine TL.p (EvP.fa (e := 1) rfl Tryd.runUnderlying78 rfl Tryd.sizeOf2 rfl) ?_
              refine TL.r (EvR.load rfl Tryd.isAgg2 (AtB.own (by repeat (first | exact Has.hd | refine Has.tlb ?_ | refine Has.tlc ?_))) (by rfl)) ?_
              refine TL.p (EvP.assign rfl) ?_
              refine TL.nil ?_
              refine TX.thenN rfl rfl ?_
              refine TC.seq ?_
              refine TC.seq ?_
              refine TC.region ?_
              have hw : whoOf d.1 b = b.t := by unfold whoOf; rw [if_pos (by omega)]
              refine TL.r (EvR.load rfl Tryd.isAgg69 (AtB.own (by repeat (first | exact Has.hd | refine Has.tlb ?_ | refine Has.tlc ?_))) (by rfl)) ?_
              refine TL.p (EvP.move rfl) ?_
              by_cases hal : b.t ∈ sI.al
              · refine TL.r (EvR.lookupY (ke := kI) kR Tryd.runUnderlying69 Tryd.zeroValue4 (hM.yes hal) rfl rfl (AtB.own (by repeat (first | exact Has.hd | refine Has.tlb ?_ | refine Has.tlc ?_)))) ?_
                refine TL.p (EvP.not rfl) ?_
                refine TL.nil ?_
                refine TX.thenN rfl rfl ?_
                refine TC.cfalse rfl ?_
                refine TC.skip ?_
                refine TX.thenN rfl rfl ?_
                refine TC.seq ?_
                refine TC.region ?_
                refine TL.p (EvP.assign rfl) ?_
                refine TL.nil ?_
                refine TX.thenN rfl rfl ?_
                refine TC.seq ?_
                refine TC.block ?_
                refine TC.seq ?_
                refine TC.region ?_
                refine TL.p (EvP.fa (e := 2) rfl Tryd.runUnderlying78 rfl Tryd.sizeOf2 rfl) ?_
                refine TL.r (EvR.load rfl Tryd.isAgg2 (AtB.own (by repeat (first | exact Has.hd | refine Has.tlb ?_ | refine Has.tlc ?_))) (by rfl)) ?_
                refine TL.dec (EvP.gt rfl rfl) (fun h113 => ?_) (fun h113 => ?_)
                · refine TL.p (EvP.assign rfl) ?_
                  refine TL.nil ?_
                  refine TX.thenN rfl rfl ?_
                  refine TC.ctrue rfl ?_
                  refine TC.region ?_
                  refine TL.p (EvP.fa (e := 2) rfl Tryd.runUnderlying78 rfl Tryd.sizeOf2 rfl) ?_
                  refine TL.r (EvR.load rfl Tryd.isAgg2 (AtB.own (by repeat (first | exact Has.hd | refine Has.tlb ?_ | refine Has.tlc ?_))) (by rfl)) ?_
                  refine TL.p (EvP.fa (e := 0) rfl Tryd.runUnderlying48 rfl Tryd.sizeOf2 rfl) ?_
                  refine TL.r (EvR.load rfl Tryd.isAgg2 (AtB.own (by repeat (first | exact Has.hd | refine Has.tlb ?_ | refine Has.tlc ?_))) (by rfl)) ?_
                  refine TL.p (EvP.fa (e := 1) rfl Tryd.runUnderlying48 rfl Tryd.sizeOf22 rfl) ?_
                  refine TL.r (EvR.load rfl Tryd.isAgg22 (AtB.own (by repeat (first | exact Has.hd | refine Has.tlb ?_ | refine Has.tlc ?_))) (by rfl)) ?_
                  refine TL.callB rfl rfl Tryd.call14 (fun w hs => down_spec hT b.r y.p (hyr.inC (by simp)) (by omega) hs) ?_
                  rintro _ CMs ⟨uM, rfl, hMs⟩
                  rw [hyp] at hMs
                  obtain ⟨aM, cM, rfl, _, _⟩ := id hMs.len
                  refine TL.p (EvP.move rfl) ?_
                  refine TL.p (EvP.extract rfl rfl) ?_
                  refine TL.p (EvP.extract rfl rfl) ?_
                  refine TL.p (EvP.assign rfl) ?_
                  refine TL.nil ?_
                  refine TX.blkN ?_
                  refine TX.thenN rfl rfl ?_
                  refine TC.region ?_
                  refine TL.r (EvR.load rfl Tryd.isAgg39 (AtB.own (by repeat (first | exact Has.hd | refine Has.tlb ?_ | refine Has.tlc ?_))) (by rfl)) ?_
                  refine TL.p (EvP.move rfl) ?_
                  refine TL.p (EvP.move rfl) ?_
                  refine TL.p (EvP.buildS (is := [0, 1]) (xs := [_, _]) rfl Tryd.runUnderlying67 Tryd.zeroValue67 rfl (.cons Tryd.sizeOf2 (.cons Tryd.sizeOf22 .nil)) rfl rfl rfl) ?_
                  refine TL.lit1 (⟨b.t, aM, (downM b.r d.1 d.2).1.length, cM⟩ : Dv) rfl elTe Tryd.underlying39 (by decide) (by decide) encD_ok rfl (fun u1 D1 hD1 => ?_)
                  refine TL.le (Le.hit9 (Le.refl _)) ?_
                  refine TL.append rfl rfl elTe Tryd.underlying39 encD_ok hS7 (SrcR.sl Tryd.underlying39 encD_ok hD1 (by simp)) (by rw [h7]; simp only [List.length_singleton]; omega) (by decide) (fun v2 C9 hC9 => ?_)
                  refine TL.u (EvU.store1 rfl rfl Tryd.sizeOf39 (by first | rfl | (apply Sl.one; assumption)) (by repeat (first | exact Has.hd | refine Has.tlb ?_ | refine Has.tlc ?_)) (by repeat (first | exact SetL.here | apply SetL.there)) (by repeat (first | exact Upd.hd | apply Upd.tlb | apply Upd.tlc))) ?_
                  refine TL.le (Le.hit2 (Le.hit9 (Le.refl _))) ?_
                  refine TL.le (Le.join (Le.refl _)) ?_
                  refine TL.nil ?_
                  refine TX.blkN ?_
                  rw [bs_down (by rw [hw]; exact hal) (by omega)] at hnx
                  rw [hw] at hnx
                  refine TX.roundN (R' := [(b12, .cells [.map (some ma)].toArray 69 (0, 0))] :: [(ma, mapObj kI (es) (clk))] :: X :: D :: E :: [(b19, .cells [v2].toArray 39 (0, 0))] :: C9 :: (CMs ++ Et) :: C2 :: [(b13, .cells [.map (some mt)].toArray 69 (0, 0))] :: [(mt, mapObj kI (et) (clt))] :: [(b20, .cells [.func (.func 39) #[] #[.pointer (some ⟨b12, 0, none⟩), .pointer (some ⟨b18, 0, none⟩)]].toArray 70 (0, 0))] :: [(b24, .cells y.enc.toArray 48 (0, 0))] :: DM ms :: R) ⟨es, X, D, E, _, C9, _, _, rfl, hnx.symm, hM, hX, DB.snoc hR7 hC9 hMs, hyr⟩ (by simp only [List.cons_append, List.nil_append]; repeat (first | exact Le.refl _ | exact Le.nil _ | refine Le.hit ?_ | refine Le.hit1 ?_ | refine Le.hit2 ?_ | refine Le.hit3 ?_ | refine Le.hit4 ?_ | refine Le.hit5 ?_ | refine Le.hit6 ?_ | refine Le.hit7 ?_ | refine Le.hit8 ?_ | refine Le.hit9 ?_ | refine Le.hit10 ?_ | refine Le.skip ?_))
                · refine TL.p (EvP.assign rfl) ?_
                  refine TL.nil ?_
                  refine TX.thenN rfl rfl ?_
                  refine TC.cfalse rfl ?_
                  refine TC.seq ?_
                  refine TC.region ?_
                  refine TL.r (EvR.load rfl Tryd.isAgg69 (AtB.own (by repeat (first | exact Has.hd | refine Has.tlb ?_ | refine Has.tlc ?_))) (by rfl)) ?_
                  refine TL.p (EvP.move rfl) ?_
                  by_cases htr : b.t ∈ traps
                  · refine TL.r (EvR.lookupY (ke := kI) kR Tryd.runUnderlying69 Tryd.zeroValue4 (hMt.yes (mem_setL.2 htr)) rfl rfl (AtB.own (by repeat (first | exact Has.hd | refine Has.tlb ?_ | refine Has.tlc ?_)))) ?_
                    refine TL.p (EvP.assign rfl) ?_
                    refine TL.nil ?_
                    refine TX.thenN rfl rfl ?_
                    refine TC.ctrue rfl ?_
                    refine TC.region ?_
                    refine TL.p (EvP.fa (e := 0) rfl Tryd.runUnderlying48 rfl Tryd.sizeOf2 rfl) ?_
                    refine TL.r (EvR.load rfl Tryd.isAgg2 (AtB.own (by repeat (first | exact Has.hd | refine Has.tlb ?_ | refine Has.tlc ?_))) (by rfl)) ?_
                    refine TL.p (EvP.fa (e := 1) rfl Tryd.runUnderlying48 rfl Tryd.sizeOf22 rfl) ?_
                    refine TL.r (EvR.load rfl Tryd.isAgg22 (AtB.own (by repeat (first | exact Has.hd | refine Has.tlb ?_ | refine Has.tlc ?_))) (by rfl)) ?_
                    refine TL.callB rfl rfl Tryd.call12 (fun w hs => exit_spec hT y.p (hyr.inC (by simp)) (by omega) hs) ?_
                    rintro _ CMs ⟨uM, rfl, hMs⟩
                    rw [hyp] at hMs
                    obtain ⟨aM, cM, rfl, _, _⟩ := id hMs.len
                    refine TL.p (EvP.move rfl) ?_
                    refine TL.p (EvP.extract rfl rfl) ?_
                    refine TL.p (EvP.extract rfl rfl) ?_
                    refine TL.p (EvP.assign rfl) ?_
                    refine TL.nil ?_
                    refine TX.blkN ?_
                    refine TX.thenN rfl rfl ?_
                    refine TC.region ?_
                    refine TL.r (EvR.load rfl Tryd.isAgg39 (AtB.own (by repeat (first | exact Has.hd | refine Has.tlb ?_ | refine Has.tlc ?_))) (by rfl)) ?_
                    refine TL.p (EvP.move rfl) ?_
                    refine TL.p (EvP.move rfl) ?_
                    refine TL.p (EvP.buildS (is := [0, 1]) (xs := [_, _]) rfl Tryd.runUnderlying67 Tryd.zeroValue67 rfl (.cons Tryd.sizeOf2 (.cons Tryd.sizeOf22 .nil)) rfl rfl rfl) ?_
                    refine TL.lit1 (⟨b.t, aM, (exitM d.1 d.2).1.length, cM⟩ : Dv) rfl elTe Tryd.underlying39 (by decide) (by decide) encD_ok rfl (fun u1 D1 hD1 => ?_)
                    refine TL.le (Le.hit9 (Le.refl _)) ?_
                    refine TL.append rfl rfl elTe Tryd.underlying39 encD_ok hS7 (SrcR.sl Tryd.underlying39 encD_ok hD1 (by simp)) (by rw [h7]; simp only [List.length_singleton]; omega) (by decide) (fun v2 C9 hC9 => ?_)
                    refine TL.u (EvU.store1 rfl rfl Tryd.sizeOf39 (by first | rfl | (apply Sl.one; assumption)) (by repeat (first | exact Has.hd | refine Has.tlb ?_ | refine Has.tlc ?_)) (by repeat (first | exact SetL.here | apply SetL.there)) (by repeat (first | exact Upd.hd | apply Upd.tlb | apply Upd.tlc))) ?_
                    refine TL.le (Le.hit2 (Le.hit9 (Le.refl _))) ?_
                    refine TL.le (Le.join (Le.refl _)) ?_
                    refine TL.nil ?_
                    refine TX.blkN ?_
                    rw [bs_exit (by rw [hw]; exact hal) (by omega) (by rw [hw]; exact htr)] at hnx
                    rw [hw] at hnx
                    refine TX.roundN (R' := [(b12, .cells [.map (some ma)].toArray 69 (0, 0))] :: [(ma, mapObj kI (es) (clk))] :: X :: D :: E :: [(b19, .cells [v2].toArray 39 (0, 0))] :: C9 :: (CMs ++ Et) :: C2 :: [(b13, .cells [.map (some mt)].toArray 69 (0, 0))] :: [(mt, mapObj kI (et) (clt))] :: [(b20, .cells [.func (.func 39) #[] #[.pointer (some ⟨b12, 0, none⟩), .pointer (some ⟨b18, 0, none⟩)]].toArray 70 (0, 0))] :: [(b24, .cells y.enc.toArray 48 (0, 0))] :: DM ms :: R) ⟨es, X, D, E, _, C9, _, _, rfl, hnx.symm, hM, hX, DB.snoc hR7 hC9 hMs, hyr⟩ (by simp only [List.cons_append, List.nil_append]; repeat (first | exact Le.refl _ | exact Le.nil _ | refine Le.hit ?_ | refine Le.hit1 ?_ | refine Le.hit2 ?_ | refine Le.hit3 ?_ | refine Le.hit4 ?_ | refine Le.hit5 ?_ | refine Le.hit6 ?_ | refine Le.hit7 ?_ | refine Le.hit8 ?_ | refine Le.hit9 ?_ | refine Le.hit10 ?_ | refine Le.skip ?_))
                  · refine TL.r (EvR.lookupN (ke := kI) kR Tryd.runUnderlying69 Tryd.zeroValue4 (hMt.no (fun h => htr (mem_setL.1 h))) rfl rfl (AtB.own (by repeat (first | exact Has.hd | refine Has.tlb ?_ | refine Has.tlc ?_)))) ?_
                    refine TL.p (EvP.assign rfl) ?_
                    refine TL.nil ?_
                    refine TX.thenN rfl rfl ?_
                    refine TC.cfalse rfl ?_
                    refine TC.seq ?_
                    refine TC.region ?_
                    refine TL.p (EvP.fa (e := 1) rfl Tryd.runUnderlying48 rfl Tryd.sizeOf22 rfl) ?_
                    refine TL.r (EvR.load rfl Tryd.isAgg22 (AtB.own (by repeat (first | exact Has.hd | refine Has.tlb ?_ | refine Has.tlc ?_))) (by rfl)) ?_
                    refine TL.callA rfl rfl Tryd.call28 (fun w hs => is_spec (hyr.inC (by simp)) normalS hs) ?_
                    rintro _ rfl
                    refine TL.p (EvP.assign rfl) ?_
                    refine TL.nil ?_
                    refine TX.thenN rfl rfl ?_
                    refine TC.cond rfl (fun h136 => ?_) (fun h136 => ?_)
                    · refine TC.exit ?_
                      refine TX.blkM rfl ?_
                      refine TX.thenE ?_
                      refine TX.blkH ?_
                      rw [bs_normal (by rw [hw]; exact hal) (by omega) (by rw [hw]; exact htr) (by assumption)] at hnx
                      refine TX.roundN (R' := [(b12, .cells [.map (some ma)].toArray 69 (0, 0))] :: [(ma, mapObj kI (es) (clk))] :: X :: D :: E :: [(b19, .cells [.slice a7 dvs7.length c7].toArray 39 (0, 0))] :: Dt :: Et :: C2 :: [(b13, .cells [.map (some mt)].toArray 69 (0, 0))] :: [(mt, mapObj kI (et) (clt))] :: [(b20, .cells [.func (.func 39) #[] #[.pointer (some ⟨b12, 0, none⟩), .pointer (some ⟨b18, 0, none⟩)]].toArray 70 (0, 0))] :: [(b24, .cells y.enc.toArray 48 (0, 0))] :: DM ms :: R) ⟨es, X, D, E, _, Dt, Et, _, rfl, hnx.symm, hM, hX, ⟨_, _, _, rfl, hS7, hR7⟩, hyr⟩ (by simp only [List.cons_append, List.nil_append]; repeat (first | exact Le.refl _ | exact Le.nil _ | refine Le.hit ?_ | refine Le.hit1 ?_ | refine Le.hit2 ?_ | refine Le.hit3 ?_ | refine Le.hit4 ?_ | refine Le.hit5 ?_ | refine Le.hit6 ?_ | refine Le.hit7 ?_ | refine Le.hit8 ?_ | refine Le.hit9 ?_ | refine Le.hit10 ?_ | refine Le.skip ?_))
                    · refine TC.seq ?_
                      refine TC.region ?_
                      refine TL.r (EvR.load rfl Tryd.isAgg70 (AtB.own (by repeat (first | exact Has.hd | refine Has.tlb ?_ | refine Has.tlc ?_))) (by rfl)) ?_
                      refine TL.p (EvP.move rfl) ?_
                      refine TL.p (EvP.fa (e := 1) rfl Tryd.runUnderlying48 rfl Tryd.sizeOf22 rfl) ?_
                      refine TL.r (EvR.load rfl Tryd.isAgg22 (AtB.own (by repeat (first | exact Has.hd | refine Has.tlb ?_ | refine Has.tlc ?_))) (by rfl)) ?_
                      refine TL.le (Le.hit1 (Le.hit1 (Le.hit1 (Le.hit1 (Le.hit1 (Le.refl _)))))) ?_
                      refine TL.call rfl rfl Tryd.call39 (fun w hs => die_spec b.t hM hX (hyr.inC (by simp)) (by omega) (by have := hokI.len; omega) hs) ?_
                      rintro _ _ ⟨M2, X2, D2, E2, es2, rfl, rfl, hM2, hX2, hE2⟩
                      refine TL.nil ?_
                      refine TX.thenN rfl rfl ?_
                      refine TC.exit ?_
                      refine TX.blkM rfl ?_
                      refine TX.thenE ?_
                      refine TX.blkH ?_
                      rw [bs_dies (by rw [hw]; exact hal) (by omega) (by rw [hw]; exact htr) (by simp_all)] at hnx
                      rw [hw] at hnx
                      refine TX.roundN (R' := [(b12, .cells [.map (some ma)].toArray 69 (0, 0))] :: [(ma, mapObj kI (es2) (clk))] :: X2 :: D2 :: E2 :: [(b19, .cells [.slice a7 dvs7.length c7].toArray 39 (0, 0))] :: Dt :: Et :: C2 :: [(b13, .cells [.map (some mt)].toArray 69 (0, 0))] :: [(mt, mapObj kI (et) (clt))] :: [(b20, .cells [.func (.func 39) #[] #[.pointer (some ⟨b12, 0, none⟩), .pointer (some ⟨b18, 0, none⟩)]].toArray 70 (0, 0))] :: [(b24, .cells y.enc.toArray 48 (0, 0))] :: DM ms :: R) ⟨es2, X2, D2, E2, _, Dt, Et, _, rfl, hnx.symm, hM2, hX2, ⟨_, _, _, rfl, hS7, hR7⟩, hyr.more hE2⟩ (by simp only [List.cons_append, List.nil_append]; repeat (first | exact Le.refl _ | exact Le.nil _ | refine Le.hit ?_ | refine Le.hit1 ?_ | refine Le.hit2 ?_ | refine Le.hit3 ?_ | refine Le.hit4 ?_ | refine Le.hit5 ?_ | refine Le.hit6 ?_ | refine Le.hit7 ?_ | refine Le.hit8 ?_ | refine Le.hit9 ?_ | refine Le.hit10 ?_ | refine Le.skip ?_))
              · refine TL.r (EvR.lookupN (ke := kI) kR Tryd.runUnderlying69 Tryd.zeroValue4 (hM.no hal) rfl rfl (AtB.own (by repeat (first | exact Has.hd | refine Has.tlb ?_ | refine Has.tlc ?_)))) ?_
                refine TL.p (EvP.not rfl) ?_
                refine TL.nil ?_
                refine TX.thenN rfl rfl ?_
                refine TC.ctrue rfl ?_
                refine TC.exit ?_
                refine TX.thenE ?_
                refine TX.blkH ?_
                rw [bs_gone (by rw [hw]; exact hal)] at hnx
                refine TX.roundN (R' := [(b12, .cells [.map (some ma)].toArray 69 (0, 0))] :: [(ma, mapObj kI (es) (clk))] :: X :: D :: E :: [(b19, .cells [.slice a7 dvs7.length c7].toArray 39 (0, 0))] :: Dt :: Et :: C2 :: [(b13, .cells [.map (some mt)].toArray 69 (0, 0))] :: [(mt, mapObj kI (et) (clt))] :: [(b20, .cells [.func (.func 39) #[] #[.pointer (some ⟨b12, 0, none⟩), .pointer (some ⟨b18, 0, none⟩)]].toArray 70 (0, 0))] :: [(b24, .cells y.enc.toArray 48 (0, 0))] :: DM ms :: R) ⟨es, X, D, E, _, Dt, Et, _, rfl, hnx.symm, hM, hX, ⟨_, _, _, rfl, hS7, hR7⟩, hyr⟩ (by simp only [List.cons_append, List.nil_append]; repeat (first | exact Le.refl _ | exact Le.nil _ | refine Le.hit ?_ | refine Le.hit1 ?_ | refine Le.hit2 ?_ | refine Le.hit3 ?_ | refine Le.hit4 ?_ | refine Le.hit5 ?_ | refine Le.hit6 ?_ | refine Le.hit7 ?_ | refine Le.hit8 ?_ | refine Le.hit9 ?_ | refine Le.hit10 ?_ | refine Le.skip ?_))
            · refine TL.nil ?_
              refine TX.thenN rfl rfl ?_
              refine TC.cfalse rfl ?_
              refine TC.skip ?_
              refine TX.thenN rfl rfl ?_
              refine TC.seq ?_
              refine TC.seq ?_
              refine TC.region ?_
              have hw : whoOf d.1 b = b.f := by unfold whoOf; rw [if_neg (by omega)]
              refine TL.r (EvR.load rfl Tryd.isAgg69 (AtB.own (by repeat (first | exact Has.hd | refine Has.tlb ?_ | refine Has.tlc ?_))) (by rfl)) ?_
              refine TL.p (EvP.move rfl) ?_
              by_cases hal : b.f ∈ sI.al
              · refine TL.r (EvR.lookupY (ke := kI) kR Tryd.runUnderlying69 Tryd.zeroValue4 (hM.yes hal) rfl rfl (AtB.own (by repeat (first | exact Has.hd | refine Has.tlb ?_ | refine Has.tlc ?_)))) ?_
                refine TL.p (EvP.not rfl) ?_
                refine TL.nil ?_
                refine TX.thenN rfl rfl ?_
                refine TC.cfalse rfl ?_
                refine TC.skip ?_
                refine TX.thenN rfl rfl ?_
                refine TC.seq ?_
                refine TC.region ?_
                refine TL.p (EvP.assign rfl) ?_
                refine TL.nil ?_
                refine TX.thenN rfl rfl ?_
                refine TC.seq ?_
                refine TC.block ?_
                refine TC.seq ?_
                refine TC.region ?_
                refine TL.p (EvP.fa (e := 2) rfl Tryd.runUnderlying78 rfl Tryd.sizeOf2 rfl) ?_
                refine TL.r (EvR.load rfl Tryd.isAgg2 (AtB.own (by repeat (first | exact Has.hd | refine Has.tlb ?_ | refine Has.tlc ?_))) (by rfl)) ?_
                refine TL.dec (EvP.gt rfl rfl) (fun h113 => ?_) (fun h113 => ?_)
                · refine TL.p (EvP.assign rfl) ?_
                  refine TL.nil ?_
                  refine TX.thenN rfl rfl ?_
                  refine TC.ctrue rfl ?_
                  refine TC.region ?_
                  refine TL.p (EvP.fa (e := 2) rfl Tryd.runUnderlying78 rfl Tryd.sizeOf2 rfl) ?_
                  refine TL.r (EvR.load rfl Tryd.isAgg2 (AtB.own (by repeat (first | exact Has.hd | refine Has.tlb ?_ | refine Has.tlc ?_))) (by rfl)) ?_
                  refine TL.p (EvP.fa (e := 0) rfl Tryd.runUnderlying48 rfl Tryd.sizeOf2 rfl) ?_
                  refine TL.r (EvR.load rfl Tryd.isAgg2 (AtB.own (by repeat (first | exact Has.hd | refine Has.tlb ?_ | refine Has.tlc ?_))) (by rfl)) ?_
                  refine TL.p (EvP.fa (e := 1) rfl Tryd.runUnderlying48 rfl Tryd.sizeOf22 rfl) ?_
                  refine TL.r (EvR.load rfl Tryd.isAgg22 (AtB.own (by repeat (first | exact Has.hd | refine Has.tlb ?_ | refine Has.tlc ?_))) (by rfl)) ?_
                  refine TL.callB rfl rfl Tryd.call14 (fun w hs => down_spec hT b.r y.p (hyr.inC (by simp)) (by omega) hs) ?_
                  rintro _ CMs ⟨uM, rfl, hMs⟩
                  rw [hyp] at hMs
                  obtain ⟨aM, cM, rfl, _, _⟩ := id hMs.len
                  refine TL.p (EvP.move rfl) ?_
                  refine TL.p (EvP.extract rfl rfl) ?_
                  refine TL.p (EvP.extract rfl rfl) ?_
                  refine TL.p (EvP.assign rfl) ?_
                  refine TL.nil ?_
                  refine TX.blkN ?_
                  refine TX.thenN rfl rfl ?_
                  refine TC.region ?_
                  refine TL.r (EvR.load rfl Tryd.isAgg39 (AtB.own (by repeat (first | exact Has.hd | refine Has.tlb ?_ | refine Has.tlc ?_))) (by rfl)) ?_
                  refine TL.p (EvP.move rfl) ?_
                  refine TL.p (EvP.move rfl) ?_
                  refine TL.p (EvP.buildS (is := [0, 1]) (xs := [_, _]) rfl Tryd.runUnderlying67 Tryd.zeroValue67 rfl (.cons Tryd.sizeOf2 (.cons Tryd.sizeOf22 .nil)) rfl rfl rfl) ?_
                  refine TL.lit1 (⟨b.f, aM, (downM b.r d.1 d.2).1.length, cM⟩ : Dv) rfl elTe Tryd.underlying39 (by decide) (by decide) encD_ok rfl (fun u1 D1 hD1 => ?_)
                  refine TL.le (Le.hit9 (Le.refl _)) ?_
                  refine TL.append rfl rfl elTe Tryd.underlying39 encD_ok hS7 (SrcR.sl Tryd.underlying39 encD_ok hD1 (by simp)) (by rw [h7]; simp only [List.length_singleton]; omega) (by decide) (fun v2 C9 hC9 => ?_)
                  refine TL.u (EvU.store1 rfl rfl Tryd.sizeOf39 (by first | rfl | (apply Sl.one; assumption)) (by repeat (first | exact Has.hd | refine Has.tlb ?_ | refine Has.tlc ?_)) (by repeat (first | exact SetL.here | apply SetL.there)) (by repeat (first | exact Upd.hd | apply Upd.tlb | apply Upd.tlc))) ?_
                  refine TL.le (Le.hit2 (Le.hit9 (Le.refl _))) ?_
                  refine TL.le (Le.join (Le.refl _)) ?_
                  refine TL.nil ?_
                  refine TX.blkN ?_
                  rw [bs_down (by rw [hw]; exact hal) (by omega)] at hnx
                  rw [hw] at hnx
                  refine TX.roundN (R' := [(b12, .cells [.map (some ma)].toArray 69 (0, 0))] :: [(ma, mapObj kI (es) (clk))] :: X :: D :: E :: [(b19, .cells [v2].toArray 39 (0, 0))] :: C9 :: (CMs ++ Et) :: C2 :: [(b13, .cells [.map (some mt)].toArray 69 (0, 0))] :: [(mt, mapObj kI (et) (clt))] :: [(b20, .cells [.func (.func 39) #[] #[.pointer (some ⟨b12, 0, none⟩), .pointer (some ⟨b18, 0, none⟩)]].toArray 70 (0, 0))] :: [(b24, .cells y.enc.toArray 48 (0, 0))] :: DM ms :: R) ⟨es, X, D, E, _, C9, _, _, rfl, hnx.symm, hM, hX, DB.snoc hR7 hC9 hMs, hyr⟩ (by simp only [List.cons_append, List.nil_append]; repeat (first | exact Le.refl _ | exact Le.nil _ | refine Le.hit ?_ | refine Le.hit1 ?_ | refine Le.hit2 ?_ | refine Le.hit3 ?_ | refine Le.hit4 ?_ | refine Le.hit5 ?_ | refine Le.hit6 ?_ | refine Le.hit7 ?_ | refine Le.hit8 ?_ | refine Le.hit9 ?_ | refine Le.hit10 ?_ | refine Le.skip ?_))
                · refine TL.p (EvP.assign rfl) ?_
                  refine TL.nil ?_
                  refine TX.thenN rfl rfl ?_
                  refine TC.cfalse rfl ?_
                  refine TC.seq ?_
                  refine TC.region ?_
                  refine TL.r (EvR.load rfl Tryd.isAgg69 (AtB.own (by repeat (first | exact Has.hd | refine Has.tlb ?_ | refine Has.tlc ?_))) (by rfl)) ?_
                  refine TL.p (EvP.move rfl) ?_
                  by_cases htr : b.f ∈ traps
                  · refine TL.r (EvR.lookupY (ke := kI) kR Tryd.runUnderlying69 Tryd.zeroValue4 (hMt.yes (mem_setL.2 htr)) rfl rfl (AtB.own (by repeat (first | exact Has.hd | refine Has.tlb ?_ | refine Has.tlc ?_)))) ?_
                    refine TL.p (EvP.assign rfl) ?_
                    refine TL.nil ?_
                    refine TX.thenN rfl rfl ?_
                    refine TC.ctrue rfl ?_
                    refine TC.region ?_
                    refine TL.p (EvP.fa (e := 0) rfl Tryd.runUnderlying48 rfl Tryd.sizeOf2 rfl) ?_
                    refine TL.r (EvR.load rfl Tryd.isAgg2 (AtB.own (by repeat (first | exact Has.hd | refine Has.tlb ?_ | refine Has.tlc ?_))) (by rfl)) ?_
                    refine TL.p (EvP.fa (e := 1) rfl Tryd.runUnderlying48 rfl Tryd.sizeOf22 rfl) ?_
                    refine TL.r (EvR.load rfl Tryd.isAgg22 (AtB.own (by repeat (first | exact Has.hd | refine Has.tlb ?_ | refine Has.tlc ?_))) (by rfl)) ?_
                    refine TL.callB rfl rfl Tryd.call12 (fun w hs => exit_spec hT y.p (hyr.inC (by simp)) (by omega) hs) ?_
                    rintro _ CMs ⟨uM, rfl, hMs⟩
                    rw [hyp] at hMs
                    obtain ⟨aM, cM, rfl, _, _⟩ := id hMs.len
                    refine TL.p (EvP.move rfl) ?_
                    refine TL.p (EvP.extract rfl rfl) ?_
                    refine TL.p (EvP.extract rfl rfl) ?_
                    refine TL.p (EvP.assign rfl) ?_
                    refine TL.nil ?_
                    refine TX.blkN ?_
                    refine TX.thenN rfl rfl ?_
                    refine TC.region ?_
                    refine TL.r (EvR.load rfl Tryd.isAgg39 (AtB.own (by repeat (first | exact Has.hd | refine Has.tlb ?_ | refine Has.tlc ?_))) (by rfl)) ?_
                    refine TL.p (EvP.move rfl) ?_
                    refine TL.p (EvP.move rfl) ?_
                    refine TL.p (EvP.buildS (is := [0, 1]) (xs := [_, _]) rfl Tryd.runUnderlying67 Tryd.zeroValue67 rfl (.cons Tryd.sizeOf2 (.cons Tryd.sizeOf22 .nil)) rfl rfl rfl) ?_
                    refine TL.lit1 (⟨b.f, aM, (exitM d.1 d.2).1.length, cM⟩ : Dv) rfl elTe Tryd.underlying39 (by decide) (by decide) encD_ok rfl (fun u1 D1 hD1 => ?_)
                    refine TL.le (Le.hit9 (Le.refl _)) ?_
                    refine TL.append rfl rfl elTe Tryd.underlying39 encD_ok hS7 (SrcR.sl Tryd.underlying39 encD_ok hD1 (by simp)) (by rw [h7]; simp only [List.length_singleton]; omega) (by decide) (fun v2 C9 hC9 => ?_)
                    refine TL.u (EvU.store1 rfl rfl Tryd.sizeOf39 (by first | rfl | (apply Sl.one; assumption)) (by repeat (first | exact Has.hd | refine Has.tlb ?_ | refine Has.tlc ?_)) (by repeat (first | exact SetL.here | apply SetL.there)) (by repeat (first | exact Upd.hd | apply Upd.tlb | apply Upd.tlc))) ?_
                    refine TL.le (Le.hit2 (Le.hit9 (Le.refl _))) ?_
                    refine TL.le (Le.join (Le.refl _)) ?_
                    refine TL.nil ?_
                    refine TX.blkN ?_
                    rw [bs_exit (by rw [hw]; exact hal) (by omega) (by rw [hw]; exact htr)] at hnx
                    rw [hw] at hnx
                    refine TX.roundN (R' := [(b12, .cells [.map (some ma)].toArray 69 (0, 0))] :: [(ma, mapObj kI (es) (clk))] :: X :: D :: E :: [(b19, .cells [v2].toArray 39 (0, 0))] :: C9 :: (CMs ++ Et) :: C2 :: [(b13, .cells [.map (some mt)].toArray 69 (0, 0))] :: [(mt, mapObj kI (et) (clt))] :: [(b20, .cells [.func (.func 39) #[] #[.pointer (some ⟨b12, 0, none⟩), .pointer (some ⟨b18, 0, none⟩)]].toArray 70 (0, 0))] :: [(b24, .cells y.enc.toArray 48 (0, 0))] :: DM ms :: R) ⟨es, X, D, E, _, C9, _, _, rfl, hnx.symm, hM, hX, DB.snoc hR7 hC9 hMs, hyr⟩ (by simp only [List.cons_append, List.nil_append]; repeat (first | exact Le.refl _ | exact Le.nil _ | refine Le.hit ?_ | refine Le.hit1 ?_ | refine Le.hit2 ?_ | refine Le.hit3 ?_ | refine Le.hit4 ?_ | refine Le.hit5 ?_ | refine Le.hit6 ?_ | refine Le.hit7 ?_ | refine Le.hit8 ?_ | refine Le.hit9 ?_ | refine Le.hit10 ?_ | refine Le.skip ?_))
                  · refine TL.r (EvR.lookupN (ke := kI) kR Tryd.runUnderlying69 Tryd.zeroValue4 (hMt.no (fun h => htr (mem_setL.1 h))) rfl rfl (AtB.own (by repeat (first | exact Has.hd | refine Has.tlb ?_ | refine Has.tlc ?_)))) ?_
                    refine TL.p (EvP.assign rfl) ?_
                    refine TL.nil ?_
                    refine TX.thenN rfl rfl ?_
                    refine TC.cfalse rfl ?_
                    refine TC.seq ?_
                    refine TC.region ?_
                    refine TL.p (EvP.fa (e := 1) rfl Tryd.runUnderlying48 rfl Tryd.sizeOf22 rfl) ?_
                    refine TL.r (EvR.load rfl Tryd.isAgg22 (AtB.own (by repeat (first | exact Has.hd | refine Has.tlb ?_ | refine Has.tlc ?_))) (by rfl)) ?_
                    refine TL.callA rfl rfl Tryd.call28 (fun w hs => is_spec (hyr.inC (by simp)) normalS hs) ?_
                    rintro _ rfl
                    refine TL.p (EvP.assign rfl) ?_
                    refine TL.nil ?_
                    refine TX.thenN rfl rfl ?_
                    refine TC.cond rfl (fun h136 => ?_) (fun h136 => ?_)
                    · refine TC.exit ?_
                      refine TX.blkM rfl ?_
                      refine TX.thenE ?_
                      refine TX.blkH ?_
                      rw [bs_normal (by rw [hw]; exact hal) (by omega) (by rw [hw]; exact htr) (by assumption)] at hnx
                      refine TX.roundN (R' := [(b12, .cells [.map (some ma)].toArray 69 (0, 0))] :: [(ma, mapObj kI (es) (clk))] :: X :: D :: E :: [(b19, .cells [.slice a7 dvs7.length c7].toArray 39 (0, 0))] :: Dt :: Et :: C2 :: [(b13, .cells [.map (some mt)].toArray 69 (0, 0))] :: [(mt, mapObj kI (et) (clt))] :: [(b20, .cells [.func (.func 39) #[] #[.pointer (some ⟨b12, 0, none⟩), .pointer (some ⟨b18, 0, none⟩)]].toArray 70 (0, 0))] :: [(b24, .cells y.enc.toArray 48 (0, 0))] :: DM ms :: R) ⟨es, X, D, E, _, Dt, Et, _, rfl, hnx.symm, hM, hX, ⟨_, _, _, rfl, hS7, hR7⟩, hyr⟩ (by simp only [List.cons_append, List.nil_append]; repeat (first | exact Le.refl _ | exact Le.nil _ | refine Le.hit ?_ | refine Le.hit1 ?_ | refine Le.hit2 ?_ | refine Le.hit3 ?_ | refine Le.hit4 ?_ | refine Le.hit5 ?_ | refine Le.hit6 ?_ | refine Le.hit7 ?_ | refine Le.hit8 ?_ | refine Le.hit9 ?_ | refine Le.hit10 ?_ | refine Le.skip ?_))
                    · refine TC.seq ?_
                      refine TC.region ?_
                      refine TL.r (EvR.load rfl Tryd.isAgg70 (AtB.own (by repeat (first | exact Has.hd | refine Has.tlb ?_ | refine Has.tlc ?_))) (by rfl)) ?_
                      refine TL.p (EvP.move rfl) ?_
                      refine TL.p (EvP.fa (e := 1) rfl Tryd.runUnderlying48 rfl Tryd.sizeOf22 rfl) ?_
                      refine TL.r (EvR.load rfl Tryd.isAgg22 (AtB.own (by repeat (first | exact Has.hd | refine Has.tlb ?_ | refine Has.tlc ?_))) (by rfl)) ?_
                      refine TL.le (Le.hit1 (Le.hit1 (Le.hit1 (Le.hit1 (Le.hit1 (Le.refl _)))))) ?_
                      refine TL.call rfl rfl Tryd.call39 (fun w hs => die_spec b.f hM hX (hyr.inC (by simp)) (by omega) (by have := hokI.len; omega) hs) ?_
                      rintro _ _ ⟨M2, X2, D2, E2, es2, rfl, rfl, hM2, hX2, hE2⟩
                      refine TL.nil ?_
                      refine TX.thenN rfl rfl ?_
                      refine TC.exit ?_
                      refine TX.blkM rfl ?_
                      refine TX.thenE ?_
                      refine TX.blkH ?_
                      rw [bs_dies (by rw [hw]; exact hal) (by omega) (by rw [hw]; exact htr) (by simp_all)] at hnx
                      rw [hw] at hnx
                      refine TX.roundN (R' := [(b12, .cells [.map (some ma)].toArray 69 (0, 0))] :: [(ma, mapObj kI (es2) (clk))] :: X2 :: D2 :: E2 :: [(b19, .cells [.slice a7 dvs7.length c7].toArray 39 (0, 0))] :: Dt :: Et :: C2 :: [(b13, .cells [.map (some mt)].toArray 69 (0, 0))] :: [(mt, mapObj kI (et) (clt))] :: [(b20, .cells [.func (.func 39) #[] #[.pointer (some ⟨b12, 0, none⟩), .pointer (some ⟨b18, 0, none⟩)]].toArray 70 (0, 0))] :: [(b24, .cells y.enc.toArray 48 (0, 0))] :: DM ms :: R) ⟨es2, X2, D2, E2, _, Dt, Et, _, rfl, hnx.symm, hM2, hX2, ⟨_, _, _, rfl, hS7, hR7⟩, hyr.more hE2⟩ (by simp only [List.cons_append, List.nil_append]; repeat (first | exact Le.refl _ | exact Le.nil _ | refine Le.hit ?_ | refine Le.hit1 ?_ | refine Le.hit2 ?_ | refine Le.hit3 ?_ | refine Le.hit4 ?_ | refine Le.hit5 ?_ | refine Le.hit6 ?_ | refine Le.hit7 ?_ | refine Le.hit8 ?_ | refine Le.hit9 ?_ | refine Le.hit10 ?_ | refine Le.skip ?_))
              · refine TL.r (EvR.lookupN (ke := kI) kR Tryd.runUnderlying69 Tryd.zeroValue4 (hM.no hal) rfl rfl (AtB.own (by repeat (first | exact Has.hd | refine Has.tlb ?_ | refine Has.tlc ?_)))) ?_
                refine TL.p (EvP.not rfl) ?_
                refine TL.nil ?_
                refine TX.thenN rfl rfl ?_
                refine TC.ctrue rfl ?_
                refine TC.exit ?_
                refine TX.thenE ?_
                refine TX.blkH ?_
                rw [bs_gone (by rw [hw]; exact hal)] at hnx
                refine TX.roundN (R' := [(b12, .cells [.map (some ma)].toArray 69 (0, 0))] :: [(ma, mapObj kI (es) (clk))] :: X :: D :: E :: [(b19, .cells [.slice a7 dvs7.length c7].toArray 39 (0, 0))] :: Dt :: Et :: C2 :: [(b13, .cells [.map (some mt)].toArray 69 (0, 0))] :: [(mt, mapObj kI (et) (clt))] :: [(b20, .cells [.func (.func 39) #[] #[.pointer (some ⟨b12, 0, none⟩), .pointer (some ⟨b18, 0, none⟩)]].toArray 70 (0, 0))] :: [(b24, .cells y.enc.toArray 48 (0, 0))] :: DM ms :: R) ⟨es, X, D, E, _, Dt, Et, _, rfl, hnx.symm, hM, hX, ⟨_, _, _, rfl, hS7, hR7⟩, hyr⟩ (by simp only [List.cons_append, List.nil_append]; repeat (first | exact Le.refl _ | exact Le.nil _ | refine Le.hit ?_ | refine Le.hit1 ?_ | refine Le.hit2 ?_ | refine Le.hit3 ?_ | refine Le.hit4 ?_ | refine Le.hit5 ?_ | refine Le.hit6 ?_ | refine Le.hit7 ?_ | refine Le.hit8 ?_ | refine Le.hit9 ?_ | refine Le.hit10 ?_ | refine Le.skip ?_))
          · clear hS9 hR9 hM hyr
            rintro dd _ ⟨es2, X2, D2, E2, Xt2, Dt2, Et2, sI, rfl, hsI, hM2, hX2, hXt2, _⟩
            refine TX.le Le.comm2 ?_
            rw [List.length_map] at hsI
            refine TX.le (Le.hit (Le.hit15 (Le.refl _))) ?_
            refine TX.le dm_join ?_
            refine TX.blkN ?_
            refine TX.scN ?_
            refine TX.blkN ?_
            refine TX.thenN rfl rfl ?_
            refine TC.region ?_
            refine TL.p (EvP.move rfl) ?_
            refine TL.p (EvP.add rfl rfl (by omega)) ?_
            refine TL.p (EvP.assign rfl) ?_
            refine TL.nil ?_
            have hnext : spN traps (sp0 live ds, bs) (k + 1) = (inI traps d.1 d.2 (endT s.2 d.1) s.1 (endT s.2 d.1).length, endL s.2 d.1) := by show kstep traps (spN traps (sp0 live ds, bs) k) k = _; rw [← hsk, kstep_at hkd]
            subst hsI
            have hk3 : k + 1 ≤ (spN traps (sp0 live ds, bs) (k + 1)).1.ds.length := by rw [hnext]; exact Nat.le_trans (by omega) inI_grow
            have hM3 : MOk es2 (spN traps (sp0 live ds, bs) (k + 1)).1.al := by rw [hnext]; exact hM2
            have hX3 : DB b18 36 48 (spN traps (sp0 live ds, bs) (k + 1)).1.ds X2 D2 E2 := by rw [hnext]; exact hX2
            have hXt3 : DB b19 39 67 (spN traps (sp0 live ds, bs) (k + 1)).1.ts Xt2 Dt2 Et2 := by rw [hnext]; exact hXt2
            have hG3 : IsG kk (spN traps (sp0 live ds, bs) (k + 1)).2 g C2 := by rw [hnext]; exact hG2
            refine TX.le (Le.hit11 (Le.hit3 (Le.hit3 (Le.hit9 (Le.hit9 (Le.hit3 (Le.hit3 (Le.hit3 (Le.hit3 (Le.hit3 (Le.hit3 (Le.hit3 (Le.hit (Le.refl _)))))))))))))) ?_
            refine TX.backM (k + 1, dd :: ms, C2, es2, X2, D2, E2, Xt2, Dt2, Et2) ⟨hk3, hM3, hX3, hXt3, hG3⟩ (by simp only; omega) rfl rfl rfl ⟨rfl, rfl, rfl, rfl, rfl, rfl, rfl, trivial⟩ (by repeat (first | exact Le.refl _ | exact Le.nil _ | refine Le.hit ?_ | refine Le.hit1 ?_ | refine Le.hit2 ?_ | refine Le.hit3 ?_ | refine Le.hit4 ?_ | refine Le.hit5 ?_ | refine Le.hit6 ?_ | refine Le.hit7 ?_ | refine Le.hit8 ?_ | refine Le.hit9 ?_ | refine Le.hit10 ?_ | refine Le.skip ?_))
          · intro _ _ _ h; exact h.elim
        · refine TL.nil ?_
          refine TX.thenN rfl rfl ?_
          refine TC.cfalse rfl ?_
          refine TC.exit ?_
          refine TX.thenE ?_
          refine TX.thenE ?_
          refine TX.blkH ?_
          refine TX.thenN rfl rfl ?_
          refine TC.seq ?_
          refine TC.drawn (listed := #[false, false, false, false, false]) 5 (SH w0 [[(b18, .cells [.slice a8 dvs8.length c8].toArray 36 (0, 0))], [(b19, .cells [.slice a9 dvs9.length c9].toArray 39 (0, 0))]]) rfl rfl rfl rfl (fun w hs => SH.of hs (by repeat (first | exact Le.refl _ | exact Le.nil _ | refine Le.hit ?_ | refine Le.hit1 ?_ | refine Le.hit2 ?_ | refine Le.hit3 ?_ | refine Le.hit4 ?_ | refine Le.hit5 ?_ | refine Le.hit6 ?_ | refine Le.hit7 ?_ | refine Le.hit8 ?_ | refine Le.hit9 ?_ | refine Le.hit10 ?_ | refine Le.skip ?_))) ?_
          refine TR.take 0 rfl (by kernel_rfl) (by kernel_rfl) (by kernel_rfl) (EvR.load rfl Tryd.isAgg36 (AtB.own' (by repeat (first | exact Has.hd | refine Has.tlb ?_ | refine Has.tlc ?_))) (by rfl)) (l' := #[true, false, false, false, false]) rfl ?_
          refine TR.take 1 rfl (by kernel_rfl) (by kernel_rfl) (by kernel_rfl) (EvR.load rfl Tryd.isAgg39 (AtB.own' (by repeat (first | exact Has.hd | refine Has.tlb ?_ | refine Has.tlc ?_))) (by rfl)) (l' := #[true, true, false, false, false]) rfl ?_
          refine TR.take 2 rfl (by kernel_rfl) (by kernel_rfl) (by kernel_rfl) (EvP.r (by exact EvP.assign rfl)) (l' := #[true, true, true, false, false]) rfl ?_
          refine TR.take 3 rfl (by kernel_rfl) (by kernel_rfl) (by kernel_rfl) (EvP.r (by exact EvP.assign rfl)) (l' := #[true, true, true, true, false]) rfl ?_
          refine TR.take 4 rfl (by kernel_rfl) (by kernel_rfl) (by kernel_rfl) (EvP.r (by exact EvP.assign rfl)) (l' := #[true, true, true, true, true]) rfl ?_
          refine TR.done (by kernel_rfl) ?_
          refine TX.thenN rfl rfl ?_
          refine TC.ret ?_
          refine TX.le (Le.hit12 (Le.refl _)) ?_
          refine TX.doneMs (ms := ms) (H1 := Cg :: D :: E :: Dt :: Et :: R) rfl (by repeat (first | exact Le.refl _ | exact Le.nil _ | refine Le.hit ?_ | refine Le.hit1 ?_ | refine Le.hit2 ?_ | refine Le.hit3 ?_ | refine Le.hit4 ?_ | refine Le.hit5 ?_ | refine Le.hit6 ?_ | refine Le.hit7 ?_ | refine Le.hit8 ?_ | refine Le.hit9 ?_ | refine Le.hit10 ?_ | refine Le.skip ?_)) (Res.three rfl rfl rfl rfl) (fun w hs => ?_)
          refine ⟨_, [Cg, D, E, Dt, Et], rfl, ⟨Cg, D, E, Dt, Et, _, _, dvs8, dvs9, s, rfl, rfl, ⟨k, hsk, by omega⟩, hok, hG, hS8, hR8, hS9, hR9⟩, hs⟩
end Go.Proofs.YtdbpandamnkpdaaDoor
