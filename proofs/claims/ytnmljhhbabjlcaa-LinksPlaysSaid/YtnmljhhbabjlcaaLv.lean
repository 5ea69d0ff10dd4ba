/-
  The walk of the given Group.
-/
import Derived.Test.YtnmljhhbabjlcaaLu
set_option linter.unusedSimpArgs false
set_option linter.unusedVariables false
set_option maxRecDepth 4000
namespace Go.Proofs.Ytnmljhhbabjlcaa
open Go Go.RowKit

theorem g_peers {w0 w : World} {R : List Chunk} {k : Int} {L : List Bond} {g : Nat} {C : Chunk} (hG : IsG k L g C) (p : Int) (hst : St w0 w (C :: R)) : Calls Try.prog 25 #[.pointer (some ⟨g, 0, none⟩), .int .i64 p] w (Post1 w0 (C :: R) fun u E => SlI u (pls L p) E) := by
  obtain ⟨mb, ml, mr, n, eb, cb, el, cl, er, cr, S, rfl, hg, rfl, hn⟩ := hG
  have h := peers_raw hg (pid := p) (hst.le Le.open4)
  exact callsL1 h Le.close4

/-- The map of those met. -/
structure MetOk (es : List (Ent Int)) (clk : Nat) (acc : List Int) : Prop where
  keys : es.map (·.1) = acc
  val : ∀ e ∈ es, e.2.1 = .bool true
  st : Stamped es clk
  nd : acc.Nodup
section
variable {es : List (Ent Int)} {clk : Nat} {acc : List Int} {q : Int}
theorem MetOk.one : MetOk [(q, .bool true, 0)] 1 [q] := ⟨rfl, by simp, ⟨by simp, by simp⟩, by simp⟩
theorem MetOk.len (h : MetOk es clk acc) : es.length = acc.length := by rw [← h.keys, List.length_map]
theorem MetOk.yes (h : MetOk es clk acc) (hq : q ∈ acc) : valOf q es = some (.bool true) := by
  refine (valOf_iff (by show (es.map (·.1)).Nodup; rw [h.keys]; exact h.nd)).2 ?_
  rw [← h.keys] at hq
  obtain ⟨e, he, rfl⟩ := List.mem_map.1 hq
  exact ⟨e.2.2, by rw [← h.val e he]; exact he⟩
theorem MetOk.no (h : MetOk es clk acc) (hq : q ∉ acc) : valOf q es = none := valOf_no fun e he hk => hq (by rw [← h.keys, ← hk]; exact List.mem_map.2 ⟨e, he, rfl⟩)
theorem MetOk.add (h : MetOk es clk acc) (hq : q ∉ acc) : MetOk (es ++ [(q, .bool true, clk)]) (clk + 1) (acc ++ [q]) :=
  ⟨by rw [List.map_append, h.keys]; rfl, fun e he => by
    rcases List.mem_append.1 he with he | he
    · exact h.val e he
    · rw [List.mem_singleton.1 he], h.st.add, nodup_snoc h.nd hq⟩
theorem MetOk.sorted (h : MetOk es clk acc) {D : List (Ent Int)} (hD : ∀ x ∈ D, x ∈ es) (hN : D.Nodup) (hall : ∀ e ∈ es, e ∈ D) : srt (D.map (·.1)) = srt acc := by
  have hne : es.Nodup := List.Pairwise.of_map (·.1) (fun a b hab e => hab (by rw [e])) (show (es.map (·.1)).Nodup from by rw [h.keys]; exact h.nd)
  have hp : D.Perm es := (List.perm_ext_iff_of_nodup hN hne).2 fun a => ⟨hD a, hall a⟩
  rw [← h.keys]
  exact srt_congr (hp.map _)
end

theorem g_groupN {w0 w : World} {R : List Chunk} {g : Nat} {C : Chunk} {pid : Int} (hp : okPid pid = false) (hst : St w0 w (C :: R)) : Calls Try.prog 23 #[.pointer (some ⟨g, 0, none⟩), .int .i64 pid] w (Post0 w0 (C :: R) fun u => u = .slice none 0 0) := by
  refine calls_of (args := [_, _]) Try.func23 rfl Try.ntmps23 hst ?_
  refine TC.seq ?_
  refine TC.region ?_
  refine TL.p (EvP.assign rfl) ?_
  refine TL.nil ?_
  refine TX.thenN rfl rfl ?_
  refine TC.seq ?_
  refine TC.seq ?_
  refine TC.region ?_
  refine TL.p (EvP.move rfl) ?_
  refine TL.p (EvP.eqPtrNil Try.runUnderlying24 rfl rfl) ?_
  refine TL.p (EvP.move rfl) ?_
  refine TL.gY rfl rfl rfl ?_
  refine TL.p (EvP.move rfl) ?_
  refine TL.gY rfl rfl rfl ?_
  refine TL.callA rfl rfl Try.call32 (fun w hs => pid_no hp hs) ?_
  rintro _ rfl
  refine TL.gY rfl rfl rfl ?_
  refine TL.p (EvP.not rfl) ?_
  refine TL.p (EvP.pickF rfl rfl) ?_
  refine TL.nil ?_
  refine TX.thenN rfl rfl ?_
  refine TC.ctrue rfl ?_
  refine TC.seq ?_
  refine TC.region ?_
  refine TL.p (EvP.assign rfl) ?_
  refine TL.nil ?_
  refine TX.thenN rfl rfl ?_
  refine TC.ret ?_
  refine TX.thenR ?_
  refine TX.done rfl (Res.one rfl rfl) (fun w hs => Post0.mk hs ?_ (by repeat (first | exact Le.refl _ | exact Le.nil _ | refine Le.hit ?_ | refine Le.hit1 ?_ | refine Le.hit2 ?_ | refine Le.hit3 ?_ | refine Le.hit4 ?_ | refine Le.hit5 ?_ | refine Le.hit6 ?_ | refine Le.hit7 ?_ | refine Le.hit8 ?_ | refine Le.hit9 ?_ | refine Le.hit10 ?_ | refine Le.skip ?_)))
  rfl

theorem g_groupY {w0 w : World} {R : List Chunk} {kk : Int} {L : List Bond} {g : Nat} {C : Chunk} (hG : IsG kk L g C) {pid : Int} (hp0 : okPid pid = true) (hst : St w0 w (C :: R)) : Calls Try.prog 23 #[.pointer (some ⟨g, 0, none⟩), .int .i64 pid] w (Post1 w0 (C :: R) fun u E => SlI u (grp L pid) E) := by
  have hok := hG.ok
  refine calls_of (args := [_, _]) Try.func23 rfl Try.ntmps23 hst ?_
  refine TC.seq ?_
  refine TC.region ?_
  refine TL.p (EvP.assign rfl) ?_
  refine TL.nil ?_
  refine TX.thenN rfl rfl ?_
  refine TC.seq ?_
  refine TC.seq ?_
  refine TC.region ?_
  refine TL.p (EvP.move rfl) ?_
  refine TL.p (EvP.eqPtrNil Try.runUnderlying24 rfl rfl) ?_
  refine TL.p (EvP.move rfl) ?_
  refine TL.gY rfl rfl rfl ?_
  refine TL.p (EvP.move rfl) ?_
  refine TL.gY rfl rfl rfl ?_
  refine TL.callA rfl rfl Try.call32 (fun w hs => pid_yes hp0 hs) ?_
  rintro _ rfl
  refine TL.gY rfl rfl rfl ?_
  refine TL.p (EvP.not rfl) ?_
  refine TL.p (EvP.pickF rfl rfl) ?_
  refine TL.nil ?_
  refine TX.thenN rfl rfl ?_
  refine TC.cfalse rfl ?_
  refine TC.skip ?_
  refine TX.thenN rfl rfl ?_
  refine TC.seq ?_
  refine TC.region ?_
  refine TL.makeMap kI (fun mm => ?_)
  refine TL.p (EvP.move rfl) ?_
  refine TL.u (EvU.insertNew kR Try.runUnderlying74 rfl rfl rfl (es := []) (clk := 0) rfl (by repeat (first | exact Upd.hd | apply Upd.tlb | apply Upd.tlc))) ?_
  refine TL.p (EvP.move rfl) ?_
  refine TL.p (EvP.assign rfl) ?_
  refine TL.nil ?_
  refine TX.thenN rfl rfl ?_
  refine TC.seq ?_
  refine TC.seq ?_
  refine TC.region ?_
  refine TL.p (EvP.move rfl) ?_
  refine TL.lit1 (pid) rfl elI Try.underlying50 (by decide) (by decide) encI_ok rfl (fun u0 D0 hD0 => ?_)
  refine TL.p (EvP.assign rfl) ?_
  refine TL.nil ?_
  refine TX.thenN rfl rfl ?_
  refine TC.block ?_
  refine TC.loop (ι := Nat × Value × Chunk × List (Ent Int) × Nat) (fun (k, v, Ct, es, clk) => [(6, v), (5, .map (some mm)), (0, .pointer (some ⟨g, 0, none⟩)), (1, .int .i64 pid)]) (fun (k, v, Ct, es, clk) => Ct :: [(mm, mapObj kI es clk)] :: C :: R) (fun (k, v, Ct, es, clk) => k ≤ (bit L pid k).length ∧ k ≤ 2 * L.length + 1 ∧ SlI v ((bit L pid k).drop k) Ct ∧ MetOk es clk (bit L pid k)) (fun (k, v, Ct, es, clk) => 2 * L.length + 2 - k) ((0, _, _, [(pid, .bool true, 0)], 1)) (⟨Nat.zero_le _, Nat.zero_le _, hD0, MetOk.one⟩) ⟨rfl, rfl, rfl, rfl, trivial⟩ (by repeat (first | exact Le.refl _ | exact Le.nil _ | refine Le.hit ?_ | refine Le.hit1 ?_ | refine Le.hit2 ?_ | refine Le.hit3 ?_ | refine Le.hit4 ?_ | refine Le.hit5 ?_ | refine Le.hit6 ?_ | refine Le.hit7 ?_ | refine Le.hit8 ?_ | refine Le.hit9 ?_ | refine Le.hit10 ?_ | refine Le.skip ?_)) ?_
  rintro ⟨k, v, Ct, es, clk⟩ ⟨hk, hk2, hb, hm⟩
  change TC _ _ [(6, v), (5, .map (some mm)), (0, .pointer (some ⟨g, 0, none⟩)), (1, .int .i64 pid)] (Ct :: [(mm, mapObj kI es clk)] :: C :: R) _
  have hbl := bit_len hok (p := pid) k
  have hll := hok.len
  have hdl : ((bit L pid k).drop k).length = (bit L pid k).length - k := List.length_drop
  obtain ⟨q1, q2, rfl, _, _⟩ := hb.len
  refine TC.seq ?_
  refine TC.seq ?_
  refine TC.region ?_
  refine TL.p (EvP.move rfl) ?_
  refine TL.p (EvP.lenS Try.runUnderlying50 rfl) ?_
  refine TL.dec (EvP.gt rfl rfl) (fun h26 => ?_) (fun h26 => ?_)
  · refine TL.nil ?_
    refine TX.thenN rfl rfl ?_
    refine TC.ctrue rfl ?_
    refine TC.skip ?_
    refine TX.thenN rfl rfl ?_
    refine TC.block ?_
    refine TC.seq ?_
    refine TC.region ?_
    refine TL.p (EvP.move rfl) ?_
    have hlt : k < (bit L pid k).length := by omega
    obtain ⟨x, hx⟩ : ∃ x, (bit L pid k)[k]? = some x := ⟨_, List.getElem?_eq_getElem hlt⟩
    have hbn := bit_next hx
    have hdr := dropI hx
    have hpl : (pls L x).length ≤ 1024 := by unfold pls peersOf; rw [srt_len, List.length_map]; exact Nat.le_trans (List.length_filter_le _ _) (Nat.le_trans (List.length_filter_le _ _) hll)
    have hb3 : SlI (.slice q1 ((bit L pid k).drop k).length q2) (x :: (bit L pid k).drop (k + 1)) Ct := by rw [← hdr]; exact hb
    refine TL.elem (hb3.el encI_ok (j := 0) (x := x) rfl (by simp)) Try.runUnderlying50 Try.sizeOf2 rfl rfl (fun bE oE lE _ _ hE hcE => ?_)
    refine TL.r (EvR.load rfl Try.isAgg2 hE hcE.1) ?_
    refine TL.p (EvP.assign rfl) ?_
    refine TL.nil ?_
    refine TX.thenN rfl rfl ?_
    refine TC.seq ?_
    refine TC.region ?_
    refine TL.p (EvP.move rfl) ?_
    obtain ⟨_, hb4⟩ := Sl.tail encI_ok hb3
    refine TL.p (EvP.sliceL (j := ((1 : Nat) : Int)) Try.runUnderlying50 Try.sizeOf2 rfl rfl ⟨by omega, by omega⟩) ?_
    refine TL.p (EvP.assign rfl) ?_
    refine TL.nil ?_
    refine TX.thenN rfl rfl ?_
    refine TC.seq ?_
    refine TC.region ?_
    refine TL.p (EvP.move rfl) ?_
    refine TL.p (EvP.move rfl) ?_
    refine TL.le (Le.hit2 (Le.refl _)) ?_
    refine TL.callB rfl rfl Try.call25 (fun w hs => g_peers hG x hs) ?_
    rintro _ Cp hp
    obtain ⟨aw, cw, rfl, _, _⟩ := hp.len
    refine TL.p (EvP.lenS Try.runUnderlying50 rfl) ?_
    refine TL.p (EvP.move rfl) ?_
    refine TL.nil ?_
    refine TX.thenN rfl rfl ?_
    refine TC.block ?_
    refine TC.loop (ι := Nat × Value × Chunk × List (Ent Int) × Nat) (fun (j, v2, Ca, es2, clk2) => [(34, .slice aw (pls L x).length cw), (35, .int .i64 (pls L x).length), (36, .int .i64 j), (6, v2), (5, .map (some mm)), (0, .pointer (some ⟨g, 0, none⟩)), (1, .int .i64 pid)]) (fun (j, v2, Ca, es2, clk2) => Ca :: Cp :: C :: [(mm, mapObj kI es2 clk2)] :: R) (fun (j, v2, Ca, es2, clk2) => j ≤ (pls L x).length ∧ SlI v2 ((((pls L x).take j).foldl stepB (bit L pid k)).drop (k + 1)) Ca ∧ MetOk es2 clk2 (((pls L x).take j).foldl stepB (bit L pid k))) (fun (j, v2, Ca, es2, clk2) => (pls L x).length - j) ((0, _, Ct, es, clk)) (⟨Nat.zero_le _, hb4, hm⟩) ⟨rfl, rfl, rfl, rfl, rfl, rfl, rfl, trivial⟩ (by repeat (first | exact Le.refl _ | exact Le.nil _ | refine Le.hit ?_ | refine Le.hit1 ?_ | refine Le.hit2 ?_ | refine Le.hit3 ?_ | refine Le.hit4 ?_ | refine Le.hit5 ?_ | refine Le.hit6 ?_ | refine Le.hit7 ?_ | refine Le.hit8 ?_ | refine Le.hit9 ?_ | refine Le.hit10 ?_ | refine Le.skip ?_)) ?_
    rintro ⟨j, v2, Ca, es2, clk2⟩ ⟨hj, ha, hm2⟩
    change TC _ _ [(34, .slice aw (pls L x).length cw), (35, .int .i64 (pls L x).length), (36, .int .i64 j), (6, v2), (5, .map (some mm)), (0, .pointer (some ⟨g, 0, none⟩)), (1, .int .i64 pid)] (Ca :: Cp :: C :: [(mm, mapObj kI es2 clk2)] :: R) _
    refine TC.seq ?_
    refine TC.region ?_
    refine TL.dec (EvP.lt rfl rfl) (fun h37 => ?_) (fun h37 => ?_)
    · refine TL.nil ?_
      refine TX.thenN rfl rfl ?_
      refine TC.seq ?_
      refine TC.ctrue rfl ?_
      refine TC.skip ?_
      refine TX.thenN rfl rfl ?_
      refine TC.seq ?_
      refine TC.block ?_
      refine TC.seq ?_
      refine TC.region ?_
      have hjl : j < (pls L x).length := by omega
      obtain ⟨q, hq⟩ : ∃ q, (pls L x)[j]? = some q := ⟨_, List.getElem?_eq_getElem hjl⟩
      have hal := acc_len hok hx (j := j)
      have hkl : k + 1 ≤ (((pls L x).take j).foldl stepB (bit L pid k)).length := Nat.le_trans hlt fold_pre.length_le
      have hdl2 : ((((pls L x).take j).foldl stepB (bit L pid k)).drop (k + 1)).length = (((pls L x).take j).foldl stepB (bit L pid k)).length - (k + 1) := List.length_drop
      refine TL.elem (hp.el encI_ok (j := j) (x := q) hq (by simp)) Try.runUnderlying50 Try.sizeOf2 rfl rfl (fun bE2 oE2 lE2 _ _ hE2 hcE2 => ?_)
      refine TL.r (EvR.load rfl Try.isAgg2 hE2 hcE2.1) ?_
      refine TL.p (EvP.assign rfl) ?_
      refine TL.nil ?_
      refine TX.thenN rfl rfl ?_
      refine TC.seq ?_
      refine TC.region ?_
      refine TL.p (EvP.move rfl) ?_
      refine TL.p (EvP.move rfl) ?_
      by_cases hmet : q ∈ (((pls L x).take j).foldl stepB (bit L pid k))
      · refine TL.r (EvR.lookupY kR Try.runUnderlying74 Try.zeroValue4 (hm2.yes hmet) rfl rfl (AtB.own (by repeat (first | exact Has.hd | refine Has.tlb ?_ | refine Has.tlc ?_)))) ?_
        refine TL.p (EvP.not rfl) ?_
        refine TL.nil ?_
        refine TX.thenN rfl rfl ?_
        refine TC.cfalse rfl ?_
        refine TC.skip ?_
        refine TX.blkN ?_
        refine TX.thenN rfl rfl ?_
        refine TC.region ?_
        refine TL.p (EvP.add rfl rfl (by omega)) ?_
        refine TL.p (EvP.move rfl) ?_
        refine TL.nil ?_
        refine TX.back ((j + 1, v2, Ca, es2, clk2)) (⟨by omega, by rw [fold_snoc hq, stepB, if_pos hmet]; exact ha, by rw [fold_snoc hq, stepB, if_pos hmet]; exact hm2⟩) (by simp only; omega) ⟨rfl, rfl, rfl, rfl, rfl, rfl, rfl, trivial⟩ (by repeat (first | exact Le.refl _ | exact Le.nil _ | refine Le.hit ?_ | refine Le.hit1 ?_ | refine Le.hit2 ?_ | refine Le.hit3 ?_ | refine Le.hit4 ?_ | refine Le.hit5 ?_ | refine Le.hit6 ?_ | refine Le.hit7 ?_ | refine Le.hit8 ?_ | refine Le.hit9 ?_ | refine Le.hit10 ?_ | refine Le.skip ?_))
      · refine TL.r (EvR.lookupN kR Try.runUnderlying74 Try.zeroValue4 (hm2.no hmet) rfl rfl (AtB.own (by repeat (first | exact Has.hd | refine Has.tlb ?_ | refine Has.tlc ?_)))) ?_
        refine TL.p (EvP.not rfl) ?_
        refine TL.nil ?_
        refine TX.thenN rfl rfl ?_
        refine TC.ctrue rfl ?_
        refine TC.seq ?_
        refine TC.region ?_
        refine TL.p (EvP.move rfl) ?_
        refine TL.p (EvP.move rfl) ?_
        refine TL.u (EvU.putNew kR Try.runUnderlying74 rfl rfl rfl (hm2.no hmet) (by repeat (first | exact Upd.hd | apply Upd.tlb | apply Upd.tlc))) ?_
        refine TL.nil ?_
        refine TX.thenN rfl rfl ?_
        refine TC.region ?_
        refine TL.p (EvP.move rfl) ?_
        refine TL.p (EvP.move rfl) ?_
        refine TL.lit1 (q) rfl elI Try.underlying50 (by decide) (by decide) encI_ok rfl (fun u1 D2 hD2 => ?_)
        refine TL.le (Le.hit1 (Le.refl _)) ?_
        refine TL.append rfl rfl elI Try.underlying50 encI_ok ha (SrcR.sl Try.underlying50 encI_ok hD2 (by simp)) (by simp only [List.length_singleton]; omega) (by decide) (fun v3 C4 hC4 => ?_)
        refine TL.p (EvP.assign rfl) ?_
        refine TL.nil ?_
        refine TX.blkN ?_
        refine TX.thenN rfl rfl ?_
        refine TC.region ?_
        refine TL.p (EvP.add rfl rfl (by omega)) ?_
        refine TL.p (EvP.move rfl) ?_
        refine TL.nil ?_
        refine TX.back ((j + 1, v3, C4, es2 ++ [(q, .bool true, clk2)], clk2 + 1)) (⟨by omega, by rw [fold_snoc hq, stepB, if_neg hmet, List.drop_append_of_le_length hkl]; exact hC4, by rw [fold_snoc hq, stepB, if_neg hmet]; exact hm2.add hmet⟩) (by simp only; omega) ⟨rfl, rfl, rfl, rfl, rfl, rfl, rfl, trivial⟩ (by repeat (first | exact Le.refl _ | exact Le.nil _ | refine Le.hit ?_ | refine Le.hit1 ?_ | refine Le.hit2 ?_ | refine Le.hit3 ?_ | refine Le.hit4 ?_ | refine Le.hit5 ?_ | refine Le.hit6 ?_ | refine Le.hit7 ?_ | refine Le.hit8 ?_ | refine Le.hit9 ?_ | refine Le.hit10 ?_ | refine Le.skip ?_))
    · refine TL.nil ?_
      refine TX.thenN rfl rfl ?_
      refine TC.seq ?_
      refine TC.cfalse rfl ?_
      refine TC.exit ?_
      refine TX.thenE ?_
      refine TX.thenE ?_
      refine TX.blkH ?_
      refine TX.blkN ?_
      have hj3 : j = (pls L x).length := by omega
      subst hj3
      rw [List.take_length] at ha hm2
      have hln : k + 1 ≤ ((pls L x).foldl stepB (bit L pid k)).length := Nat.le_trans hlt fold_pre.length_le
      refine TX.back ((k + 1, v2, Ca, es2, clk2)) (⟨by rw [hbn]; exact hln, by omega, by rw [hbn]; exact ha, by rw [hbn]; exact hm2⟩) (by simp only; omega) ⟨rfl, rfl, rfl, rfl, trivial⟩ (by repeat (first | exact Le.refl _ | exact Le.nil _ | refine Le.hit ?_ | refine Le.hit1 ?_ | refine Le.hit2 ?_ | refine Le.hit3 ?_ | refine Le.hit4 ?_ | refine Le.hit5 ?_ | refine Le.hit6 ?_ | refine Le.hit7 ?_ | refine Le.hit8 ?_ | refine Le.hit9 ?_ | refine Le.hit10 ?_ | refine Le.skip ?_))
  · refine TL.nil ?_
    refine TX.thenN rfl rfl ?_
    refine TC.cfalse rfl ?_
    refine TC.exit ?_
    refine TX.thenE ?_
    refine TX.thenE ?_
    refine TX.blkH ?_
    refine TX.thenN rfl rfl ?_
    refine TC.seq ?_
    refine TC.region ?_
    refine TL.p (EvP.assign rfl) ?_
    refine TL.nil ?_
    refine TX.thenN rfl rfl ?_
    refine TC.seq ?_
    refine TC.seq ?_
    refine TC.region ?_
    refine TL.p (EvP.move rfl) ?_
    have hke : (bit L pid k).length ≤ k := by omega
    have hml := hm.len
    refine TL.range (ke := kI) Try.runUnderlying74 rfl (AtB.own (by repeat (first | exact Has.hd | refine Has.tlb ?_ | refine Has.tlc ?_))) (fun r => ?_)
    refine TL.le Le.nilC ?_
    refine TL.nil ?_
    refine TX.thenN rfl rfl ?_
    refine TC.block ?_
    refine TC.loop (ι := List (Ent Int) × Value × Chunk) (fun (D, v3, C3) => [(52, .pointer (some ⟨r, 0, none⟩)), (10, v3)]) (fun (D, v3, C3) => [(r, iterObj mm clk D)] :: C3 :: [(mm, mapObj kI es clk)] :: C :: R) (fun (D, v3, C3) => (∀ x ∈ D, x ∈ es) ∧ D.Nodup ∧ SlI v3 (D.map (·.1)) C3) (fun (D, v3, C3) => es.length - D.length) (([], .slice none 0 0, [])) (⟨by simp, by simp, Sl.nil⟩) ⟨rfl, rfl, trivial⟩ (by repeat (first | exact Le.refl _ | exact Le.nil _ | refine Le.hit ?_ | refine Le.hit1 ?_ | refine Le.hit2 ?_ | refine Le.hit3 ?_ | refine Le.hit4 ?_ | refine Le.hit5 ?_ | refine Le.hit6 ?_ | refine Le.hit7 ?_ | refine Le.hit8 ?_ | refine Le.hit9 ?_ | refine Le.hit10 ?_ | refine Le.skip ?_)) ?_
    rintro ⟨D, v3, C3⟩ ⟨hD, hN, hv3⟩
    change TC _ _ [(52, .pointer (some ⟨r, 0, none⟩)), (10, v3)] ([(r, iterObj mm clk D)] :: C3 :: [(mm, mapObj kI es clk)] :: C :: R) _
    refine TC.seq ?_
    refine TC.region ?_
    refine TL.next (ke := kI) (b := mm) (D := D) rfl (AtB.own (by repeat (first | exact Has.hd | refine Has.tlb ?_ | refine Has.tlc ?_))) hm.st hD (by repeat (first | exact Has.hd | refine Has.tlb ?_ | refine Has.tlc ?_)) (fun hall => ?_) (fun e he hnD => ⟨_, (by repeat (first | exact Upd.hd | apply Upd.tlb | apply Upd.tlc)), ?_⟩)
    · refine TL.p (EvP.extract rfl rfl) ?_
      refine TL.nil ?_
      refine TX.thenN rfl rfl ?_
      refine TC.seq ?_
      refine TC.cfalse rfl ?_
      refine TC.exit ?_
      refine TX.thenE ?_
      refine TX.thenE ?_
      refine TX.blkH ?_
      refine TX.thenN rfl rfl ?_
      refine TC.seq ?_
      refine TC.region ?_
      refine TL.p (EvP.move rfl) ?_
      refine TL.le (Le.hit1 (Le.refl _)) ?_
      refine TL.callB rfl rfl Try.call44 (fun w hs => sort_spec hv3 hs (by have := nodup_len hN hD; simp only [List.length_map]; omega)) ?_
      rintro _ C9 ⟨rfl, h9⟩
      refine TL.nil ?_
      refine TX.thenN rfl rfl ?_
      refine TC.seq ?_
      refine TC.region ?_
      refine TL.p (EvP.move rfl) ?_
      refine TL.p (EvP.assign rfl) ?_
      refine TL.nil ?_
      refine TX.thenN rfl rfl ?_
      refine TC.ret ?_
      rw [hm.sorted hD hN hall, ← grp_end hok hp0 hke hk2] at h9
      refine TX.done rfl (Res.one rfl rfl) (fun w hs => Post1.mk (C := C9) hs h9 (by repeat (first | exact Le.refl _ | exact Le.nil _ | refine Le.hit ?_ | refine Le.hit1 ?_ | refine Le.hit2 ?_ | refine Le.hit3 ?_ | refine Le.hit4 ?_ | refine Le.hit5 ?_ | refine Le.hit6 ?_ | refine Le.hit7 ?_ | refine Le.hit8 ?_ | refine Le.hit9 ?_ | refine Le.hit10 ?_ | refine Le.skip ?_)))
    · refine TL.p (EvP.extract rfl rfl) ?_
      refine TL.nil ?_
      refine TX.thenN rfl rfl ?_
      refine TC.seq ?_
      refine TC.ctrue rfl ?_
      refine TC.skip ?_
      refine TX.thenN rfl rfl ?_
      refine TC.block ?_
      refine TC.seq ?_
      refine TC.region ?_
      refine TL.r (EvR.entry (ke := kI) (b := mm) (D := D) rfl (AtB.own (by repeat (first | exact Has.hd | refine Has.tlb ?_ | refine Has.tlc ?_))) (AtB.own (by repeat (first | exact Has.hd | refine Has.tlb ?_ | refine Has.tlc ?_))) hm.st he) ?_
      refine TL.p (EvP.extract rfl rfl) ?_
      refine TL.p (EvP.assign rfl) ?_
      refine TL.nil ?_
      refine TX.thenN rfl rfl ?_
      refine TC.region ?_
      refine TL.p (EvP.move rfl) ?_
      refine TL.p (EvP.move rfl) ?_
      refine TL.lit1 (e.1) rfl elI Try.underlying50 (by decide) (by decide) encI_ok rfl (fun u5 D6 hD6 => ?_)
      refine TL.le (Le.hit2 (Le.refl _)) ?_
      refine TL.append rfl rfl elI Try.underlying50 encI_ok hv3 (SrcR.sl Try.underlying50 encI_ok hD6 (by simp)) (by have := nodup_len hN hD; simp only [List.length_map, List.length_singleton]; omega) (by decide) (fun v7 C8 hC8 => ?_)
      refine TL.p (EvP.assign rfl) ?_
      refine TL.nil ?_
      refine TX.blkN ?_
      refine TX.back ((D ++ [e], v7, C8)) (⟨fun x hx => (List.mem_append.1 hx).elim (hD x) (fun h => List.mem_singleton.1 h ▸ he), nodup_snoc hN hnD, by rw [List.map_append]; exact hC8⟩) (by have := nodup_room hN hD he hnD; simp only [List.length_append, List.length_singleton]; omega) ⟨rfl, rfl, trivial⟩ (by repeat (first | exact Le.refl _ | exact Le.nil _ | refine Le.hit ?_ | refine Le.hit1 ?_ | refine Le.hit2 ?_ | refine Le.hit3 ?_ | refine Le.hit4 ?_ | refine Le.hit5 ?_ | refine Le.hit6 ?_ | refine Le.hit7 ?_ | refine Le.hit8 ?_ | refine Le.hit9 ?_ | refine Le.hit10 ?_ | refine Le.skip ?_))
end Go.Proofs.Ytnmljhhbabjlcaa
