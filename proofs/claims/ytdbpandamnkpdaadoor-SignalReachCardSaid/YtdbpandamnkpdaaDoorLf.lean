/-
  The end of a process: its bonds go, those that must be told are handed back.
-/
import Derived.Test.YtdbpandamnkpdaaDoorLe
set_option linter.unusedSimpArgs false
set_option linter.unusedVariables false
namespace Go.Proofs.YtdbpandamnkpdaaDoor
open Go Go.RowKit

theorem Le.close4b {a b c d : Nat × Obj} {D : Chunk} {R} : Le ([a, b, c, d] :: D :: R) ([a] :: [b] :: [c] :: [d] :: D :: R) := ⟨[], by simp⟩
/-- Where an end stands, behind its first i bonds. -/
def EndInv (S : List (Int × Bond)) (n : Int) (cb : Nat) (pid : Int) (i : Nat) (eb : List (Ent Int)) (el : List (Ent (Int × Int))) (er : List (Ent Int)) (tl : List Bond) : Prop :=
  GOk ((S.take i).filter (fun s => !ofP pid s.2) ++ S.drop i) n eb cb el er ∧ tl = (((S.take i).map (·.2)).filter (ofP pid)).filter (told pid)
section
variable {S : List (Int × Bond)} {n : Int} {cb : Nat} {pid : Int} {i : Nat} {eb : List (Ent Int)} {el : List (Ent (Int × Int))} {er : List (Ent Int)} {tl : List Bond} {s : Int × Bond}
theorem EndInv.start (h : GOk S n eb cb el er) : EndInv S n cb pid 0 eb el er [] := ⟨by simpa using h, by simp⟩
theorem drop_at (hx : S[i]? = some s) : S.drop i = s :: S.drop (i + 1) := by
  have hlt := (List.getElem?_eq_some_iff.1 hx).1
  rw [← (List.getElem?_eq_some_iff.1 hx).2, ← List.drop_eq_getElem_cons hlt]
theorem EndInv.mem (h : EndInv S n cb pid i eb el er tl) (hx : S[i]? = some s) : s ∈ (S.take i).filter (fun s => !ofP pid s.2) ++ S.drop i := by
  rw [drop_at hx]; simp
theorem EndInv.val (h : EndInv S n cb pid i eb el er tl) (hx : S[i]? = some s) : valOf s.1 eb = some s.2.v := h.1.valb (h.mem hx)
theorem EndInv.len (h : EndInv S n cb pid i eb el er tl) (hi : i ≤ S.length) : tl.length ≤ S.length := by
  rw [h.2]
  refine Nat.le_trans (List.length_filter_le _ _) (Nat.le_trans (List.length_filter_le _ _) ?_)
  rw [List.length_map, List.length_take]; omega
theorem EndInv.skip (h : EndInv S n cb pid i eb el er tl) (hx : S[i]? = some s) (hp : ofP pid s.2 = false) : EndInv S n cb pid (i + 1) eb el er tl := by
  obtain ⟨h1, h2⟩ := h
  rw [drop_at hx] at h1
  refine ⟨?_, ?_⟩
  · rw [take_snoc hx, List.filter_append]
    simpa [hp] using h1
  · rw [take_snoc hx, List.map_append, List.filter_append, List.filter_append, ← h2]
    simp [hp]
theorem EndInv.out_ (h : EndInv S n cb pid i eb el er tl) (hx : S[i]? = some s) (hp : ofP pid s.2 = true) :
    EndInv S n cb pid (i + 1) (delE s.1 eb) (if s.2.r = 0 then delE (s.2.f, s.2.t) el else el) (if s.2.r = 0 then er else delE s.2.r er) (if told pid s.2 = true then tl ++ [s.2] else tl) := by
  have hm := h.mem hx
  obtain ⟨h1, h2⟩ := h
  have h3 := h1.out hm
  have hinc := h1.inc
  refine ⟨?_, ?_⟩
  · have e : ((S.take i).filter (fun s => !ofP pid s.2) ++ S.drop i).filter (fun x => decide (x.1 ≠ s.1)) = (S.take (i + 1)).filter (fun s => !ofP pid s.2) ++ S.drop (i + 1) := by
      rw [drop_at hx] at hinc ⊢
      rw [take_snoc hx, List.filter_append, List.filter_append]
      rw [List.pairwise_append, List.pairwise_cons] at hinc
      have e1 : ((S.take i).filter (fun s => !ofP pid s.2)).filter (fun x => decide (x.1 ≠ s.1)) = (S.take i).filter (fun s => !ofP pid s.2) := List.filter_eq_self.2 fun x hxm => by
        have := hinc.2.2 x hxm s (by simp)
        simp only [decide_eq_true_eq]; omega
      have e2 : (S.drop (i + 1)).filter (fun x => decide (x.1 ≠ s.1)) = S.drop (i + 1) := List.filter_eq_self.2 fun x hxm => by
        have := hinc.2.1.1 x hxm
        simp only [decide_eq_true_eq]; omega
      rw [e1, List.filter_cons, if_neg (by simp), e2]
      simp [hp]
    rw [← e]; exact h3
  · rw [take_snoc hx, List.map_append, List.filter_append, List.filter_append, ← h2]
    by_cases ht : told pid s.2 = true
    · simp [hp, ht]
    · simp [hp, ht]
theorem EndInv.outT0 (h : EndInv S n cb pid i eb el er tl) (hx : S[i]? = some s) (hr : s.2.r = 0) (hp : ofP pid s.2 = true) (ht : told pid s.2 = true) : EndInv S n cb pid (i + 1) (delE s.1 eb) (delE (s.2.f, s.2.t) el) er (tl ++ [s.2]) := by
  have := h.out_ hx hp
  rwa [if_pos hr, if_pos hr, if_pos ht] at this
theorem EndInv.outT1 (h : EndInv S n cb pid i eb el er tl) (hx : S[i]? = some s) (hr : ¬s.2.r = 0) (hp : ofP pid s.2 = true) (ht : told pid s.2 = true) : EndInv S n cb pid (i + 1) (delE s.1 eb) el (delE s.2.r er) (tl ++ [s.2]) := by
  have := h.out_ hx hp
  rwa [if_neg hr, if_neg hr, if_pos ht] at this
theorem EndInv.outN1 (h : EndInv S n cb pid i eb el er tl) (hx : S[i]? = some s) (hr : ¬s.2.r = 0) (hp : ofP pid s.2 = true) (ht : told pid s.2 = false) : EndInv S n cb pid (i + 1) (delE s.1 eb) el (delE s.2.r er) tl := by
  have := h.out_ hx hp
  rwa [if_neg hr, if_neg hr, if_neg (by simp [ht])] at this
theorem EndInv.fin (h : EndInv S n cb pid i eb el er tl) (hi : i = S.length) : ∃ S2, GOk S2 n eb cb el er ∧ S2.map (·.2) = endL (S.map (·.2)) pid ∧ tl = endT (S.map (·.2)) pid := by
  subst hi
  obtain ⟨h1, h2⟩ := h
  refine ⟨_, h1, ?_, ?_⟩
  · simp only [List.take_length, List.drop_length, List.append_nil, endL, List.filter_map]
    rfl
  · rw [h2, List.take_length]; rfl
end

theorem pid_no {w0 w : World} {R : List Chunk} {n : Int} (h : okPid n = false) (hst : St w0 w R) : Calls Tryd.prog 58 #[.int .i64 n] w (Post0 w0 R fun v => v = .bool false) := by
  have := isPid_spec n hst
  rwa [h] at this

theorem end_bad {w0 w : World} {R : List Chunk} {g mb ml mr : Nat} {n : Int} {eb : List (Ent Int)} {cb : Nat} {el : List (Ent (Int × Int))} {cl : Nat} {er : List (Ent Int)} {cr : Nat} {pid : Int} (hp : okPid pid = false) (hst : St w0 w ([(g, .cells [.map (some mb), .int .i64 n, .map (some ml), .map (some mr)].toArray 91 (0, 0))] :: [(mb, mapObj kI eb cb)] :: [(ml, mapObj kP el cl)] :: [(mr, mapObj kI er cr)] :: R)) : Calls Tryd.prog 40 #[.pointer (some ⟨g, 0, none⟩), .int .i64 pid] w (Post0 w0 ([(g, .cells [.map (some mb), .int .i64 n, .map (some ml), .map (some mr)].toArray 91 (0, 0))] :: [(mb, mapObj kI eb cb)] :: [(ml, mapObj kP el cl)] :: [(mr, mapObj kI er cr)] :: R) fun u => u = .tuple #[.slice none 0 0, .int .i64 1]) := by
  refine calls_of (args := [_, _]) Tryd.func40 rfl Tryd.ntmps40 hst ?_
  refine TC.seq ?_
  refine TC.region ?_
  refine TL.p (EvP.assign rfl) ?_
  refine TL.p (EvP.assign rfl) ?_
  refine TL.nil ?_
  refine TX.thenN rfl rfl ?_
  refine TC.seq ?_
  refine TC.block ?_
  refine TC.seq ?_
  refine TC.region ?_
  refine TL.p (EvP.move rfl) ?_
  refine TL.p (EvP.eqPtrNil Tryd.runUnderlying43 rfl rfl) ?_
  refine TL.p (EvP.assign rfl) ?_
  refine TL.nil ?_
  refine TX.thenN rfl rfl ?_
  refine TC.cfalse rfl ?_
  refine TC.seq ?_
  refine TC.region ?_
  refine TL.p (EvP.move rfl) ?_
  refine TL.callA rfl rfl Tryd.call58 (fun w hs => pid_no hp hs) ?_
  rintro _ rfl
  refine TL.p (EvP.not rfl) ?_
  refine TL.p (EvP.assign rfl) ?_
  refine TL.nil ?_
  refine TX.thenN rfl rfl ?_
  refine TC.ctrue rfl ?_
  refine TC.seq ?_
  refine TC.region ?_
  refine TL.p (EvP.assign rfl) ?_
  refine TL.p (EvP.assign rfl) ?_
  refine TL.nil ?_
  refine TX.thenN rfl rfl ?_
  refine TC.ret ?_
  refine TX.blkR ?_
  refine TX.thenR ?_
  refine TX.done rfl (Res.two rfl rfl rfl) (fun w hs => Post0.mk hs ?_ (by repeat (first | exact Le.refl _ | exact Le.nil _ | refine Le.hit ?_ | refine Le.hit1 ?_ | refine Le.hit2 ?_ | refine Le.hit3 ?_ | refine Le.hit4 ?_ | refine Le.hit5 ?_ | refine Le.hit6 ?_ | refine Le.hit7 ?_ | refine Le.hit8 ?_ | refine Le.hit9 ?_ | refine Le.hit10 ?_ | refine Le.skip ?_)))
  rfl

theorem end_raw {w0 w : World} {R : List Chunk} {g mb ml mr : Nat} {n : Int} {eb : List (Ent Int)} {cb : Nat} {el : List (Ent (Int × Int))} {cl : Nat} {er : List (Ent Int)} {cr : Nat} {pid : Int} (hp : okPid pid = true) {S : List (Int × Bond)} (hg : GOk S n eb cb el er) (hst : St w0 w ([(g, .cells [.map (some mb), .int .i64 n, .map (some ml), .map (some mr)].toArray 91 (0, 0))] :: [(mb, mapObj kI eb cb)] :: [(ml, mapObj kP el cl)] :: [(mr, mapObj kI er cr)] :: R)) : Calls Tryd.prog 40 #[.pointer (some ⟨g, 0, none⟩), .int .i64 pid] w (Post2 w0 R fun u C D => ∃ t, u = .tuple #[t, .int .i64 0] ∧ Sl 78 3 Bond.enc t (endT (S.map (·.2)) pid) D ∧ ∃ S2 eb2 el2 er2, C = [(g, .cells [.map (some mb), .int .i64 n, .map (some ml), .map (some mr)].toArray 91 (0, 0)), (mb, mapObj kI eb2 cb), (ml, mapObj kP el2 cl), (mr, mapObj kI er2 cr)] ∧ GOk S2 n eb2 cb el2 er2 ∧ S2.map (·.2) = endL (S.map (·.2)) pid) := by
  refine calls_of (args := [_, _]) Tryd.func40 rfl Tryd.ntmps40 hst ?_
  refine TC.seq ?_
  refine TC.region ?_
  refine TL.p (EvP.assign rfl) ?_
  refine TL.p (EvP.assign rfl) ?_
  refine TL.nil ?_
  refine TX.thenN rfl rfl ?_
  refine TC.seq ?_
  refine TC.block ?_
  refine TC.seq ?_
  refine TC.region ?_
  refine TL.p (EvP.move rfl) ?_
  refine TL.p (EvP.eqPtrNil Tryd.runUnderlying43 rfl rfl) ?_
  refine TL.p (EvP.assign rfl) ?_
  refine TL.nil ?_
  refine TX.thenN rfl rfl ?_
  refine TC.cfalse rfl ?_
  refine TC.seq ?_
  refine TC.region ?_
  refine TL.p (EvP.move rfl) ?_
  refine TL.callA rfl rfl Tryd.call58 (fun w hs => pid_yes hp hs) ?_
  rintro _ rfl
  refine TL.p (EvP.not rfl) ?_
  refine TL.p (EvP.assign rfl) ?_
  refine TL.nil ?_
  refine TX.thenN rfl rfl ?_
  refine TC.cfalse rfl ?_
  refine TC.skip ?_
  refine TX.blkN ?_
  refine TX.thenN rfl rfl ?_
  refine TC.seq ?_
  refine TC.region ?_
  refine TL.p (EvP.assign rfl) ?_
  refine TL.nil ?_
  refine TX.thenN rfl rfl ?_
  refine TC.seq ?_
  refine TC.seq ?_
  refine TC.region ?_
  refine TL.p (EvP.move rfl) ?_
  refine TL.callB rfl rfl Tryd.call59 (fun w hs => order_raw hg hs) ?_
  rintro vN Cn hvN
  obtain ⟨_, _, hq, _, _⟩ := hvN.len
  have hlenN : ∃ a cap, vN = .slice a S.length cap := ⟨_, _, by rw [hq, List.length_map]⟩
  clear hq
  obtain ⟨aN, capN, rfl⟩ := hlenN
  refine TL.le (Le.hit Le.nilC) ?_
  refine TL.p (EvP.lenS Tryd.runUnderlying35 rfl) ?_
  refine TL.p (EvP.move rfl) ?_
  refine TL.nil ?_
  refine TX.thenN rfl rfl ?_
  refine TC.block ?_
  refine TC.loop (ι := Nat × List (Ent Int) × List (Ent (Int × Int)) × List (Ent Int) × List Bond × Value × Chunk) (fun (i, eb2, el2, er2, tl, v, Ct) => [(0, .pointer (some ⟨g, 0, none⟩)), (1, .int .i64 pid), (18, .slice aN S.length capN), (19, .int .i64 S.length), (20, .int .i64 i), (6, v)]) (fun (i, eb2, el2, er2, tl, v, Ct) => Cn :: Ct :: [(g, .cells [.map (some mb), .int .i64 n, .map (some ml), .map (some mr)].toArray 91 (0, 0))] :: [(mb, mapObj kI eb2 cb)] :: [(ml, mapObj kP el2 cl)] :: [(mr, mapObj kI er2 cr)] :: R) (fun (i, eb2, el2, er2, tl, v, Ct) => i ≤ S.length ∧ EndInv S n cb pid i eb2 el2 er2 tl ∧ Sl 78 3 Bond.enc v tl Ct) (fun (i, eb2, el2, er2, tl, v, Ct) => S.length - i) ((0, eb, el, er, [], .slice none 0 0, [])) (⟨Nat.zero_le _, .start hg, Sl.nil⟩) ⟨rfl, rfl, rfl, rfl, rfl, rfl, trivial⟩ (by repeat (first | exact Le.refl _ | exact Le.nil _ | refine Le.hit ?_ | refine Le.hit1 ?_ | refine Le.hit2 ?_ | refine Le.hit3 ?_ | refine Le.hit4 ?_ | refine Le.hit5 ?_ | refine Le.hit6 ?_ | refine Le.hit7 ?_ | refine Le.hit8 ?_ | refine Le.hit9 ?_ | refine Le.hit10 ?_ | refine Le.skip ?_)) ?_
  rintro ⟨i, eb2, el2, er2, tl, v, Ct⟩ ⟨hi, hI, hv⟩
  change TC _ _ [(0, .pointer (some ⟨g, 0, none⟩)), (1, .int .i64 pid), (18, .slice aN S.length capN), (19, .int .i64 S.length), (20, .int .i64 i), (6, v)] (Cn :: Ct :: [(g, .cells [.map (some mb), .int .i64 n, .map (some ml), .map (some mr)].toArray 91 (0, 0))] :: [(mb, mapObj kI eb2 cb)] :: [(ml, mapObj kP el2 cl)] :: [(mr, mapObj kI er2 cr)] :: R) _
  have hsm := hg.ok.len
  simp only [List.length_map] at hsm
  refine TC.seq ?_
  refine TC.region ?_
  refine TL.dec (EvP.lt rfl rfl) (fun h21 => ?_) (fun h21 => ?_)
  · refine TL.nil ?_
    refine TX.thenN rfl rfl ?_
    refine TC.seq ?_
    refine TC.ctrue rfl ?_
    refine TC.skip ?_
    refine TX.thenN rfl rfl ?_
    refine TC.seq ?_
    refine TC.block ?_
    refine TC.seq ?_
    refine TC.region ?_
    have hi2 : i < S.length := by omega
    obtain ⟨s, hx⟩ : ∃ s, S[i]? = some s := ⟨_, List.getElem?_eq_getElem hi2⟩
    refine TL.elem (hvN.el encI_ok (j := i) (x := s.1) (by rw [List.getElem?_map, hx]; rfl) (by simp)) Tryd.runUnderlying35 Tryd.sizeOf2 rfl rfl (fun bE oE lE _ _ hE hcE => ?_)
    refine TL.r (EvR.load rfl Tryd.isAgg2 hE hcE.1) ?_
    refine TL.p (EvP.assign rfl) ?_
    refine TL.nil ?_
    refine TX.thenN rfl rfl ?_
    refine TC.seq ?_
    refine TC.region ?_
    refine TL.p (EvP.move rfl) ?_
    refine TL.p (EvP.nilP rfl) ?_
    refine TL.p (EvP.fa (e := 0) rfl Tryd.runUnderlying91 rfl Tryd.sizeOf87 rfl) ?_
    refine TL.r (EvR.load rfl Tryd.isAgg87 (AtB.own (by repeat (first | exact Has.hd | refine Has.tlb ?_ | refine Has.tlc ?_))) (by rfl)) ?_
    refine TL.p (EvP.move rfl) ?_
    refine TL.r (EvR.lookupY kB Tryd.runUnderlying87 Tryd.zeroValue78 (hI.val hx) rfl rfl (AtB.own (by repeat (first | exact Has.hd | refine Has.tlb ?_ | refine Has.tlc ?_)))) ?_
    refine TL.alloc Tryd.zeroValue78 rfl (fun b9 => ?_)
    refine TL.u (EvU.store rfl rfl Tryd.sizeOf78 rfl rfl rfl rfl (by repeat (first | exact Has.hd | refine Has.tlb ?_ | refine Has.tlc ?_)) (by repeat (first | exact SetLs.nil | exact SetL.here | apply SetLs.cons | apply SetL.there)) (by repeat (first | exact Upd.hd | apply Upd.tlb | apply Upd.tlc))) ?_
    refine TL.nil ?_
    refine TX.thenN rfl rfl ?_
    refine TC.seq ?_
    refine TC.seq ?_
    refine TC.region ?_
    refine TL.p (EvP.fa (e := 0) rfl Tryd.runUnderlying78 rfl Tryd.sizeOf2 rfl) ?_
    refine TL.r (EvR.load rfl Tryd.isAgg2 (AtB.own (by repeat (first | exact Has.hd | refine Has.tlb ?_ | refine Has.tlc ?_))) (by rfl)) ?_
    refine TL.p (EvP.move rfl) ?_
    refine TL.dec (EvP.ne rfl rfl) (fun h33 => ?_) (fun h33 => ?_)
    · refine TL.p (EvP.move rfl) ?_
      refine TL.gY rfl rfl rfl ?_
      refine TL.p (EvP.fa (e := 1) rfl Tryd.runUnderlying78 rfl Tryd.sizeOf2 rfl) ?_
      refine TL.gY rfl rfl rfl ?_
      refine TL.r (EvR.load rfl Tryd.isAgg2 (AtB.own (by repeat (first | exact Has.hd | refine Has.tlb ?_ | refine Has.tlc ?_))) (by rfl)) ?_
      refine TL.gY rfl rfl rfl ?_
      refine TL.p (EvP.move rfl) ?_
      refine TL.gY rfl rfl rfl ?_
      refine TL.dec (EvP.ne rfl rfl) (fun h38 => ?_) (fun h38 => ?_)
      · refine TL.p (EvP.pickT rfl rfl) ?_
        refine TL.nil ?_
        refine TX.thenN rfl rfl ?_
        refine TC.ctrue rfl ?_
        refine TC.exit ?_
        refine TX.thenE ?_
        refine TX.blkH ?_
        refine TX.thenN rfl rfl ?_
        refine TC.region ?_
        refine TL.p (EvP.add rfl rfl (by omega)) ?_
        refine TL.p (EvP.move rfl) ?_
        refine TL.nil ?_
        refine TX.back ((i + 1, eb2, el2, er2, tl, v, Ct)) (⟨by omega, hI.skip hx (by simp_all [ofP]), hv⟩) (by simp only; omega) ⟨rfl, rfl, rfl, rfl, rfl, rfl, trivial⟩ (by repeat (first | exact Le.refl _ | exact Le.nil _ | refine Le.hit ?_ | refine Le.hit1 ?_ | refine Le.hit2 ?_ | refine Le.hit3 ?_ | refine Le.hit4 ?_ | refine Le.hit5 ?_ | refine Le.hit6 ?_ | refine Le.hit7 ?_ | refine Le.hit8 ?_ | refine Le.hit9 ?_ | refine Le.hit10 ?_ | refine Le.skip ?_))
      · refine TL.p (EvP.pickT rfl rfl) ?_
        refine TL.nil ?_
        refine TX.thenN rfl rfl ?_
        refine TC.cfalse rfl ?_
        refine TC.skip ?_
        refine TX.thenN rfl rfl ?_
        refine TC.seq ?_
        refine TC.region ?_
        refine TL.p (EvP.move rfl) ?_
        refine TL.p (EvP.move rfl) ?_
        by_cases hr : s.2.r = 0
        · refine TL.le (Le.hit3 (Le.hit3 (Le.hit3 (Le.refl _)))) ?_
          refine TL.callA rfl rfl Tryd.call60 (fun w hs => out_raw0 (hI.val hx) hr hs) ?_
          rintro _ _
          refine TL.nil ?_
          refine TX.thenN rfl rfl ?_
          refine TC.seq ?_
          refine TC.region ?_
          refine TL.p (EvP.fa (e := 2) rfl Tryd.runUnderlying78 rfl Tryd.sizeOf2 rfl) ?_
          refine TL.r (EvR.load rfl Tryd.isAgg2 (AtB.own (by repeat (first | exact Has.hd | refine Has.tlb ?_ | refine Has.tlc ?_))) (by rfl)) ?_
          refine TL.p (EvP.isT (EvP.eq rfl rfl) (hr)) ?_
          refine TL.p (EvP.move rfl) ?_
          refine TL.gN rfl rfl rfl ?_
          refine TL.gN rfl rfl rfl ?_
          refine TL.gN rfl rfl rfl ?_
          refine TL.gN rfl rfl rfl ?_
          refine TL.gN rfl rfl rfl ?_
          refine TL.gU rfl rfl ?_
          refine TL.gU rfl rfl ?_
          refine TL.gU rfl rfl ?_
          refine TL.gU rfl rfl ?_
          refine TL.gN rfl rfl rfl ?_
          refine TL.p (EvP.pickT rfl rfl) ?_
          refine TL.nil ?_
          refine TX.thenN rfl rfl ?_
          refine TC.ctrue rfl ?_
          refine TC.region ?_
          refine TL.p (EvP.move rfl) ?_
          refine TL.r (EvR.loadN (vs := [_, _, _]) rfl Tryd.isAgg78 Tryd.sizeOf78 (AtB.own (by repeat (first | exact Has.hd | refine Has.tlb ?_ | refine Has.tlc ?_))) (by exact ⟨rfl, rfl, rfl,  trivial⟩)) ?_
          refine TL.lit1 (s.2) rfl elB Tryd.underlying71 (by decide) (by decide) encB_ok rfl (fun u1 D2 hD2 => ?_)
          refine TL.le (Le.hit6 (Le.refl _)) ?_
          refine TL.append rfl rfl elB Tryd.underlying71 encB_ok hv (SrcR.sl Tryd.underlying71 encB_ok hD2 (by simp)) (by have := hI.len hi; simp only [List.length_singleton]; omega) (by decide) (fun v3 C4 hC4 => ?_)
          refine TL.p (EvP.assign rfl) ?_
          refine TL.nil ?_
          refine TX.blkN ?_
          refine TX.thenN rfl rfl ?_
          refine TC.region ?_
          refine TL.p (EvP.add rfl rfl (by omega)) ?_
          refine TL.p (EvP.move rfl) ?_
          refine TL.nil ?_
          refine TX.back ((i + 1, (delE s.1 eb2), (delE (s.2.f, s.2.t) el2), er2, tl ++ [s.2], v3, C4)) (⟨by omega, hI.outT0 hx hr (by simp_all [ofP]) (by simp_all [told]), hC4⟩) (by simp only; omega) ⟨rfl, rfl, rfl, rfl, rfl, rfl, trivial⟩ (by repeat (first | exact Le.refl _ | exact Le.nil _ | refine Le.hit ?_ | refine Le.hit1 ?_ | refine Le.hit2 ?_ | refine Le.hit3 ?_ | refine Le.hit4 ?_ | refine Le.hit5 ?_ | refine Le.hit6 ?_ | refine Le.hit7 ?_ | refine Le.hit8 ?_ | refine Le.hit9 ?_ | refine Le.hit10 ?_ | refine Le.skip ?_))
        · refine TL.le (Le.hit3 (Le.hit3 (Le.hit4 (Le.refl _)))) ?_
          refine TL.callA rfl rfl Tryd.call60 (fun w hs => out_raw1 (hI.val hx) hr hs) ?_
          rintro _ _
          refine TL.nil ?_
          refine TX.thenN rfl rfl ?_
          refine TC.seq ?_
          refine TC.region ?_
          refine TL.p (EvP.fa (e := 2) rfl Tryd.runUnderlying78 rfl Tryd.sizeOf2 rfl) ?_
          refine TL.r (EvR.load rfl Tryd.isAgg2 (AtB.own (by repeat (first | exact Has.hd | refine Has.tlb ?_ | refine Has.tlc ?_))) (by rfl)) ?_
          refine TL.p (EvP.isF (EvP.eq rfl rfl) (hr)) ?_
          refine TL.p (EvP.move rfl) ?_
          refine TL.gY rfl rfl rfl ?_
          refine TL.p (EvP.fa (e := 1) rfl Tryd.runUnderlying78 rfl Tryd.sizeOf2 rfl) ?_
          refine TL.gY rfl rfl rfl ?_
          refine TL.r (EvR.load rfl Tryd.isAgg2 (AtB.own (by repeat (first | exact Has.hd | refine Has.tlb ?_ | refine Has.tlc ?_))) (by rfl)) ?_
          refine TL.gY rfl rfl rfl ?_
          refine TL.p (EvP.move rfl) ?_
          refine TL.gY rfl rfl rfl ?_
          refine TL.dec (EvP.eq rfl rfl) (fun h50 => ?_) (fun h50 => ?_)
          · refine TL.gY rfl rfl rfl ?_
            refine TL.p (EvP.move rfl) ?_
            refine TL.gY rfl rfl rfl ?_
            refine TL.p (EvP.fa (e := 0) rfl Tryd.runUnderlying78 rfl Tryd.sizeOf2 rfl) ?_
            refine TL.gY rfl rfl rfl ?_
            refine TL.r (EvR.load rfl Tryd.isAgg2 (AtB.own (by repeat (first | exact Has.hd | refine Has.tlb ?_ | refine Has.tlc ?_))) (by rfl)) ?_
            refine TL.gY rfl rfl rfl ?_
            refine TL.p (EvP.move rfl) ?_
            refine TL.gY rfl rfl rfl ?_
            refine TL.dec (EvP.ne rfl rfl) (fun h55 => ?_) (fun h55 => ?_)
            · refine TL.gY rfl rfl rfl ?_
              refine TL.p (EvP.pickT rfl rfl) ?_
              refine TL.p (EvP.pickF rfl rfl) ?_
              refine TL.nil ?_
              refine TX.thenN rfl rfl ?_
              refine TC.ctrue rfl ?_
              refine TC.region ?_
              refine TL.p (EvP.move rfl) ?_
              refine TL.r (EvR.loadN (vs := [_, _, _]) rfl Tryd.isAgg78 Tryd.sizeOf78 (AtB.own (by repeat (first | exact Has.hd | refine Has.tlb ?_ | refine Has.tlc ?_))) (by exact ⟨rfl, rfl, rfl,  trivial⟩)) ?_
              refine TL.lit1 (s.2) rfl elB Tryd.underlying71 (by decide) (by decide) encB_ok rfl (fun u5 D6 hD6 => ?_)
              refine TL.le (Le.hit6 (Le.refl _)) ?_
              refine TL.append rfl rfl elB Tryd.underlying71 encB_ok hv (SrcR.sl Tryd.underlying71 encB_ok hD6 (by simp)) (by have := hI.len hi; simp only [List.length_singleton]; omega) (by decide) (fun v7 C8 hC8 => ?_)
              refine TL.p (EvP.assign rfl) ?_
              refine TL.nil ?_
              refine TX.blkN ?_
              refine TX.thenN rfl rfl ?_
              refine TC.region ?_
              refine TL.p (EvP.add rfl rfl (by omega)) ?_
              refine TL.p (EvP.move rfl) ?_
              refine TL.nil ?_
              refine TX.back ((i + 1, (delE s.1 eb2), el2, (delE s.2.r er2), tl ++ [s.2], v7, C8)) (⟨by omega, hI.outT1 hx hr (by simp_all [ofP]) (by simp_all [told]), hC8⟩) (by simp only; omega) ⟨rfl, rfl, rfl, rfl, rfl, rfl, trivial⟩ (by repeat (first | exact Le.refl _ | exact Le.nil _ | refine Le.hit ?_ | refine Le.hit1 ?_ | refine Le.hit2 ?_ | refine Le.hit3 ?_ | refine Le.hit4 ?_ | refine Le.hit5 ?_ | refine Le.hit6 ?_ | refine Le.hit7 ?_ | refine Le.hit8 ?_ | refine Le.hit9 ?_ | refine Le.hit10 ?_ | refine Le.skip ?_))
            · refine TL.gY rfl rfl rfl ?_
              refine TL.p (EvP.pickT rfl rfl) ?_
              refine TL.p (EvP.pickF rfl rfl) ?_
              refine TL.nil ?_
              refine TX.thenN rfl rfl ?_
              refine TC.cfalse rfl ?_
              refine TC.skip ?_
              refine TX.blkN ?_
              refine TX.thenN rfl rfl ?_
              refine TC.region ?_
              refine TL.p (EvP.add rfl rfl (by omega)) ?_
              refine TL.p (EvP.move rfl) ?_
              refine TL.nil ?_
              refine TX.back ((i + 1, (delE s.1 eb2), el2, (delE s.2.r er2), tl, v, Ct)) (⟨by omega, hI.outN1 hx hr (by simp_all [ofP]) (by simp_all [told]), hv⟩) (by simp only; omega) ⟨rfl, rfl, rfl, rfl, rfl, rfl, trivial⟩ (by repeat (first | exact Le.refl _ | exact Le.nil _ | refine Le.hit ?_ | refine Le.hit1 ?_ | refine Le.hit2 ?_ | refine Le.hit3 ?_ | refine Le.hit4 ?_ | refine Le.hit5 ?_ | refine Le.hit6 ?_ | refine Le.hit7 ?_ | refine Le.hit8 ?_ | refine Le.hit9 ?_ | refine Le.hit10 ?_ | refine Le.skip ?_))
          · refine TL.gY rfl rfl rfl ?_
            refine TL.p (EvP.move rfl) ?_
            refine TL.gN rfl rfl rfl ?_
            refine TL.gN rfl rfl rfl ?_
            refine TL.gN rfl rfl rfl ?_
            refine TL.gN rfl rfl rfl ?_
            refine TL.gY rfl rfl rfl ?_
            refine TL.p (EvP.pickF rfl rfl) ?_
            refine TL.p (EvP.pickF rfl rfl) ?_
            refine TL.nil ?_
            refine TX.thenN rfl rfl ?_
            refine TC.cfalse rfl ?_
            refine TC.skip ?_
            refine TX.blkN ?_
            refine TX.thenN rfl rfl ?_
            refine TC.region ?_
            refine TL.p (EvP.add rfl rfl (by omega)) ?_
            refine TL.p (EvP.move rfl) ?_
            refine TL.nil ?_
            refine TX.back ((i + 1, (delE s.1 eb2), el2, (delE s.2.r er2), tl, v, Ct)) (⟨by omega, hI.outN1 hx hr (by simp_all [ofP]) (by simp_all [told]), hv⟩) (by simp only; omega) ⟨rfl, rfl, rfl, rfl, rfl, rfl, trivial⟩ (by repeat (first | exact Le.refl _ | exact Le.nil _ | refine Le.hit ?_ | refine Le.hit1 ?_ | refine Le.hit2 ?_ | refine Le.hit3 ?_ | refine Le.hit4 ?_ | refine Le.hit5 ?_ | refine Le.hit6 ?_ | refine Le.hit7 ?_ | refine Le.hit8 ?_ | refine Le.hit9 ?_ | refine Le.hit10 ?_ | refine Le.skip ?_))
    · refine TL.p (EvP.move rfl) ?_
      refine TL.gN rfl rfl rfl ?_
      refine TL.gN rfl rfl rfl ?_
      refine TL.gN rfl rfl rfl ?_
      refine TL.gN rfl rfl rfl ?_
      refine TL.p (EvP.pickF rfl rfl) ?_
      refine TL.nil ?_
      refine TX.thenN rfl rfl ?_
      refine TC.cfalse rfl ?_
      refine TC.skip ?_
      refine TX.thenN rfl rfl ?_
      refine TC.seq ?_
      refine TC.region ?_
      refine TL.p (EvP.move rfl) ?_
      refine TL.p (EvP.move rfl) ?_
      by_cases hr : s.2.r = 0
      · refine TL.le (Le.hit3 (Le.hit3 (Le.hit3 (Le.refl _)))) ?_
        refine TL.callA rfl rfl Tryd.call60 (fun w hs => out_raw0 (hI.val hx) hr hs) ?_
        rintro _ _
        refine TL.nil ?_
        refine TX.thenN rfl rfl ?_
        refine TC.seq ?_
        refine TC.region ?_
        refine TL.p (EvP.fa (e := 2) rfl Tryd.runUnderlying78 rfl Tryd.sizeOf2 rfl) ?_
        refine TL.r (EvR.load rfl Tryd.isAgg2 (AtB.own (by repeat (first | exact Has.hd | refine Has.tlb ?_ | refine Has.tlc ?_))) (by rfl)) ?_
        refine TL.p (EvP.isT (EvP.eq rfl rfl) (hr)) ?_
        refine TL.p (EvP.move rfl) ?_
        refine TL.gN rfl rfl rfl ?_
        refine TL.gN rfl rfl rfl ?_
        refine TL.gN rfl rfl rfl ?_
        refine TL.gN rfl rfl rfl ?_
        refine TL.gN rfl rfl rfl ?_
        refine TL.gU rfl rfl ?_
        refine TL.gU rfl rfl ?_
        refine TL.gU rfl rfl ?_
        refine TL.gU rfl rfl ?_
        refine TL.gN rfl rfl rfl ?_
        refine TL.p (EvP.pickT rfl rfl) ?_
        refine TL.nil ?_
        refine TX.thenN rfl rfl ?_
        refine TC.ctrue rfl ?_
        refine TC.region ?_
        refine TL.p (EvP.move rfl) ?_
        refine TL.r (EvR.loadN (vs := [_, _, _]) rfl Tryd.isAgg78 Tryd.sizeOf78 (AtB.own (by repeat (first | exact Has.hd | refine Has.tlb ?_ | refine Has.tlc ?_))) (by exact ⟨rfl, rfl, rfl,  trivial⟩)) ?_
        refine TL.lit1 (s.2) rfl elB Tryd.underlying71 (by decide) (by decide) encB_ok rfl (fun u9 D10 hD10 => ?_)
        refine TL.le (Le.hit6 (Le.refl _)) ?_
        refine TL.append rfl rfl elB Tryd.underlying71 encB_ok hv (SrcR.sl Tryd.underlying71 encB_ok hD10 (by simp)) (by have := hI.len hi; simp only [List.length_singleton]; omega) (by decide) (fun v11 C12 hC12 => ?_)
        refine TL.p (EvP.assign rfl) ?_
        refine TL.nil ?_
        refine TX.blkN ?_
        refine TX.thenN rfl rfl ?_
        refine TC.region ?_
        refine TL.p (EvP.add rfl rfl (by omega)) ?_
        refine TL.p (EvP.move rfl) ?_
        refine TL.nil ?_
        refine TX.back ((i + 1, (delE s.1 eb2), (delE (s.2.f, s.2.t) el2), er2, tl ++ [s.2], v11, C12)) (⟨by omega, hI.outT0 hx hr (by simp_all [ofP]) (by simp_all [told]), hC12⟩) (by simp only; omega) ⟨rfl, rfl, rfl, rfl, rfl, rfl, trivial⟩ (by repeat (first | exact Le.refl _ | exact Le.nil _ | refine Le.hit ?_ | refine Le.hit1 ?_ | refine Le.hit2 ?_ | refine Le.hit3 ?_ | refine Le.hit4 ?_ | refine Le.hit5 ?_ | refine Le.hit6 ?_ | refine Le.hit7 ?_ | refine Le.hit8 ?_ | refine Le.hit9 ?_ | refine Le.hit10 ?_ | refine Le.skip ?_))
      · refine TL.le (Le.hit3 (Le.hit3 (Le.hit4 (Le.refl _)))) ?_
        refine TL.callA rfl rfl Tryd.call60 (fun w hs => out_raw1 (hI.val hx) hr hs) ?_
        rintro _ _
        refine TL.nil ?_
        refine TX.thenN rfl rfl ?_
        refine TC.seq ?_
        refine TC.region ?_
        refine TL.p (EvP.fa (e := 2) rfl Tryd.runUnderlying78 rfl Tryd.sizeOf2 rfl) ?_
        refine TL.r (EvR.load rfl Tryd.isAgg2 (AtB.own (by repeat (first | exact Has.hd | refine Has.tlb ?_ | refine Has.tlc ?_))) (by rfl)) ?_
        refine TL.p (EvP.isF (EvP.eq rfl rfl) (hr)) ?_
        refine TL.p (EvP.move rfl) ?_
        refine TL.gY rfl rfl rfl ?_
        refine TL.p (EvP.fa (e := 1) rfl Tryd.runUnderlying78 rfl Tryd.sizeOf2 rfl) ?_
        refine TL.gY rfl rfl rfl ?_
        refine TL.r (EvR.load rfl Tryd.isAgg2 (AtB.own (by repeat (first | exact Has.hd | refine Has.tlb ?_ | refine Has.tlc ?_))) (by rfl)) ?_
        refine TL.gY rfl rfl rfl ?_
        refine TL.p (EvP.move rfl) ?_
        refine TL.gY rfl rfl rfl ?_
        refine TL.dec (EvP.eq rfl rfl) (fun h50 => ?_) (fun h50 => ?_)
        · refine TL.gY rfl rfl rfl ?_
          refine TL.p (EvP.move rfl) ?_
          refine TL.gY rfl rfl rfl ?_
          refine TL.p (EvP.fa (e := 0) rfl Tryd.runUnderlying78 rfl Tryd.sizeOf2 rfl) ?_
          refine TL.gY rfl rfl rfl ?_
          refine TL.r (EvR.load rfl Tryd.isAgg2 (AtB.own (by repeat (first | exact Has.hd | refine Has.tlb ?_ | refine Has.tlc ?_))) (by rfl)) ?_
          refine TL.gY rfl rfl rfl ?_
          refine TL.p (EvP.move rfl) ?_
          refine TL.gY rfl rfl rfl ?_
          refine TL.dec (EvP.ne rfl rfl) (fun h55 => ?_) (fun h55 => ?_)
          · refine TL.gY rfl rfl rfl ?_
            refine TL.p (EvP.pickT rfl rfl) ?_
            refine TL.p (EvP.pickF rfl rfl) ?_
            refine TL.nil ?_
            refine TX.thenN rfl rfl ?_
            refine TC.ctrue rfl ?_
            refine TC.region ?_
            refine TL.p (EvP.move rfl) ?_
            refine TL.r (EvR.loadN (vs := [_, _, _]) rfl Tryd.isAgg78 Tryd.sizeOf78 (AtB.own (by repeat (first | exact Has.hd | refine Has.tlb ?_ | refine Has.tlc ?_))) (by exact ⟨rfl, rfl, rfl,  trivial⟩)) ?_
            refine TL.lit1 (s.2) rfl elB Tryd.underlying71 (by decide) (by decide) encB_ok rfl (fun u13 D14 hD14 => ?_)
            refine TL.le (Le.hit6 (Le.refl _)) ?_
            refine TL.append rfl rfl elB Tryd.underlying71 encB_ok hv (SrcR.sl Tryd.underlying71 encB_ok hD14 (by simp)) (by have := hI.len hi; simp only [List.length_singleton]; omega) (by decide) (fun v15 C16 hC16 => ?_)
            refine TL.p (EvP.assign rfl) ?_
            refine TL.nil ?_
            refine TX.blkN ?_
            refine TX.thenN rfl rfl ?_
            refine TC.region ?_
            refine TL.p (EvP.add rfl rfl (by omega)) ?_
            refine TL.p (EvP.move rfl) ?_
            refine TL.nil ?_
            refine TX.back ((i + 1, (delE s.1 eb2), el2, (delE s.2.r er2), tl ++ [s.2], v15, C16)) (⟨by omega, hI.outT1 hx hr (by simp_all [ofP]) (by simp_all [told]), hC16⟩) (by simp only; omega) ⟨rfl, rfl, rfl, rfl, rfl, rfl, trivial⟩ (by repeat (first | exact Le.refl _ | exact Le.nil _ | refine Le.hit ?_ | refine Le.hit1 ?_ | refine Le.hit2 ?_ | refine Le.hit3 ?_ | refine Le.hit4 ?_ | refine Le.hit5 ?_ | refine Le.hit6 ?_ | refine Le.hit7 ?_ | refine Le.hit8 ?_ | refine Le.hit9 ?_ | refine Le.hit10 ?_ | refine Le.skip ?_))
          · refine TL.gY rfl rfl rfl ?_
            refine TL.p (EvP.pickT rfl rfl) ?_
            refine TL.p (EvP.pickF rfl rfl) ?_
            refine TL.nil ?_
            refine TX.thenN rfl rfl ?_
            refine TC.cfalse rfl ?_
            refine TC.skip ?_
            refine TX.blkN ?_
            refine TX.thenN rfl rfl ?_
            refine TC.region ?_
            refine TL.p (EvP.add rfl rfl (by omega)) ?_
            refine TL.p (EvP.move rfl) ?_
            refine TL.nil ?_
            refine TX.back ((i + 1, (delE s.1 eb2), el2, (delE s.2.r er2), tl, v, Ct)) (⟨by omega, hI.outN1 hx hr (by simp_all [ofP]) (by simp_all [told]), hv⟩) (by simp only; omega) ⟨rfl, rfl, rfl, rfl, rfl, rfl, trivial⟩ (by repeat (first | exact Le.refl _ | exact Le.nil _ | refine Le.hit ?_ | refine Le.hit1 ?_ | refine Le.hit2 ?_ | refine Le.hit3 ?_ | refine Le.hit4 ?_ | refine Le.hit5 ?_ | refine Le.hit6 ?_ | refine Le.hit7 ?_ | refine Le.hit8 ?_ | refine Le.hit9 ?_ | refine Le.hit10 ?_ | refine Le.skip ?_))
        · refine TL.gY rfl rfl rfl ?_
          refine TL.p (EvP.move rfl) ?_
          refine TL.gN rfl rfl rfl ?_
          refine TL.gN rfl rfl rfl ?_
          refine TL.gN rfl rfl rfl ?_
          refine TL.gN rfl rfl rfl ?_
          refine TL.gY rfl rfl rfl ?_
          refine TL.p (EvP.pickF rfl rfl) ?_
          refine TL.p (EvP.pickF rfl rfl) ?_
          refine TL.nil ?_
          refine TX.thenN rfl rfl ?_
          refine TC.cfalse rfl ?_
          refine TC.skip ?_
          refine TX.blkN ?_
          refine TX.thenN rfl rfl ?_
          refine TC.region ?_
          refine TL.p (EvP.add rfl rfl (by omega)) ?_
          refine TL.p (EvP.move rfl) ?_
          refine TL.nil ?_
          refine TX.back ((i + 1, (delE s.1 eb2), el2, (delE s.2.r er2), tl, v, Ct)) (⟨by omega, hI.outN1 hx hr (by simp_all [ofP]) (by simp_all [told]), hv⟩) (by simp only; omega) ⟨rfl, rfl, rfl, rfl, rfl, rfl, trivial⟩ (by repeat (first | exact Le.refl _ | exact Le.nil _ | refine Le.hit ?_ | refine Le.hit1 ?_ | refine Le.hit2 ?_ | refine Le.hit3 ?_ | refine Le.hit4 ?_ | refine Le.hit5 ?_ | refine Le.hit6 ?_ | refine Le.hit7 ?_ | refine Le.hit8 ?_ | refine Le.hit9 ?_ | refine Le.hit10 ?_ | refine Le.skip ?_))
  · refine TL.nil ?_
    refine TX.thenN rfl rfl ?_
    refine TC.seq ?_
    refine TC.cfalse rfl ?_
    refine TC.exit ?_
    refine TX.thenE ?_
    refine TX.thenE ?_
    refine TX.blkH ?_
    refine TX.thenN rfl rfl ?_
    refine TC.seq ?_
    refine TC.region ?_
    refine TL.p (EvP.move rfl) ?_
    refine TL.p (EvP.assign rfl) ?_
    refine TL.p (EvP.assign rfl) ?_
    refine TL.nil ?_
    refine TX.thenN rfl rfl ?_
    refine TC.ret ?_
    refine TX.done rfl (Res.two rfl rfl rfl) (fun w hs => Post2.mk (C := [(g, .cells [.map (some mb), .int .i64 n, .map (some ml), .map (some mr)].toArray 91 (0, 0)), (mb, mapObj kI eb2 cb), (ml, mapObj kP el2 cl), (mr, mapObj kI er2 cr)]) (D := Ct) hs ?_ (Le.trans Le.close4b (by repeat (first | exact Le.refl _ | exact Le.nil _ | refine Le.hit ?_ | refine Le.hit1 ?_ | refine Le.hit2 ?_ | refine Le.hit3 ?_ | refine Le.hit4 ?_ | refine Le.hit5 ?_ | refine Le.hit6 ?_ | refine Le.hit7 ?_ | refine Le.hit8 ?_ | refine Le.hit9 ?_ | refine Le.hit10 ?_ | refine Le.skip ?_))))
    have hi3 : i = S.length := by omega
    obtain ⟨S2, hg2, hS2, htl⟩ := hI.fin hi3
    exact ⟨v, rfl, htl ▸ hv, S2, eb2, el2, er2, rfl, hg2, hS2⟩
end Go.Proofs.YtdbpandamnkpdaaDoor
