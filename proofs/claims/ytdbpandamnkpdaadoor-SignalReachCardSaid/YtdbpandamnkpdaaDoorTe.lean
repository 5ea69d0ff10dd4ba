/-
  The walks of reached and of SignalReach.
-/
import Derived.Test.YtdbpandamnkpdaaDoorTd
set_option linter.unusedSimpArgs false
set_option linter.unusedVariables false
set_option maxRecDepth 100000
namespace Go.Proofs.YtdbpandamnkpdaaDoor
open Go Go.RowKit Go.Lib

theorem Fst.came {w0 : World} {H : List Chunk} {v : Value} {dvs : List Dv} {ds : List Dth} (h : Fst (fun w => w = w0) v dvs ds) : Fst (fun w => St w0 w H) v dvs ds := by
  obtain ⟨a, cap, e, h1, h2, h3, h4⟩ := h
  exact ⟨a, cap, e, h1, h2, h3.came, h4.came⟩
theorem pls_len {L : List Bond} {p : Int} (h : LOk L) : (pls L p).length ≤ 1024 := by
  unfold pls
  rw [srt_len]
  unfold peersOf ofL
  rw [List.length_map]
  exact Nat.le_trans (List.length_filter_le _ _) (Nat.le_trans (List.length_filter_le _ _) h.len)
theorem LS.pids {L : List Bond} {live traps : List Int} {ds : List Dth} {p : Int} {ps l l' : List Int} {i : Nat} (h : LS L (okR live traps ds) p ps i l l') (hl : ∀ q ∈ live, okPid q = true) (h0 : ∀ x ∈ l, okPid x = true) : ∀ x ∈ l', okPid x = true := fun x hx => by
  rcases h.new x hx with hx | hx
  · exact h0 x hx
  · exact hl x hx.ok_.1
theorem WS.pids {bs : List Bond} {live traps : List Int} {ds : List Dth} {i : Nat} {l : List Int} (h : WS bs live traps ds i l) (hl : ∀ q ∈ live, okPid q = true) (h0 : ∀ d ∈ ds, okPid d.1 = true) : ∀ x ∈ l, okPid x = true := fun x hx => by
  rcases h.new x hx with hx | ⟨d, hd, hn, hr⟩
  · obtain ⟨d, hd, rfl⟩ := List.mem_map.1 hx
    exact h0 d hd
  · exact hl x hr.ok_.1
theorem has_yes {w0 w : World} {R : List Chunk} {v : Value} {xs : List Int} {q : Int} (hq : q ∈ xs) (he : Els (fun w => St w0 w R) v 1 (one (Value.int .i64)) 2 xs) (hsz : xs.length < 4611686018427387904) (hst : St w0 w R) : Calls Tryd.prog 22 #[v, .int .i64 q] w (Post0 w0 R fun u => u = .bool true) := by
  have := has_spec q he hsz hst
  rwa [decide_eq_true hq] at this

theorem reached_spec {w0 : World} {Lb : List Bond} {rr : Nat} {ab aL aT aF : Option Addr} {nb cb cL cT nF cF : Nat} {live traps : List Int} {ds : List Dth} (heL : Els (fun w => w = w0) (.slice aL live.length cL) 1 (one (Value.int .i64)) 2 live) (heT : Els (fun w => w = w0) (.slice aT traps.length cT) 1 (one (Value.int .i64)) 2 traps) (hok : LOk Lb) (hlive : ∀ q ∈ live, okPid q = true) (hzl : live.length ≤ 17592186044416) (hzt : traps.length ≤ 17592186044416) :
    ∀ (n : Nat) {w : World} {R : List Chunk} {Cr D C : Chunk} {v : Value} {l : List Int} (pid : Int), mz live l < n → RQ rr Lb Cr D → SlI v l C → l.Nodup → (∀ x ∈ ds.map (·.1), x ∈ l) → (∀ x ∈ l, okPid x = true) → St w0 w (C :: Cr :: D :: R) →
      Calls Tryd.prog 21 #[.pointer (some ⟨rr, 0, none⟩), .agg #[.slice ab nb cb, .slice aL live.length cL, .slice aT traps.length cT, .slice aF nF cF], .int .i64 pid, v] w (Post1 w0 (Cr :: D :: R) fun u C2 => ∃ l2, SlI u l2 C2 ∧ RS Lb (okR live traps ds) pid l l2) := by
  intro n
  induction n with
  | zero => intros; omega
  | succ n ih =>
    intro w R Cr D C v l pid hmz hR hv hln hsubF hpk0 hst
    refine calls_of (args := [_, _, _, _]) Tryd.func21 rfl Tryd.ntmps21 hst ?_
    refine TC.seq ?_
    refine TC.region ?_
    refine TL.box rfl rfl (fun b5 => ?_)
    refine TL.p (EvP.assign rfl) ?_
    refine TL.nil ?_
    refine TX.thenN rfl rfl ?_
    refine TC.seq ?_
    refine TC.seq ?_
    refine TC.region ?_
    refine TL.p (EvP.move rfl) ?_
    refine TL.p (EvP.move rfl) ?_
    refine TL.le (Le.hit2 (Le.hit2 (Le.refl _))) ?_
    refine TL.callB rfl rfl Tryd.call45 (fun w hs => r_peers hok hR pid hs) ?_
    rintro _ EP hEP
    have hpl := pls_len (p := pid) hok
    obtain ⟨aP, cP, rfl, _, _⟩ := id hEP.len
    refine TL.p (EvP.lenS Tryd.runUnderlying35 rfl) ?_
    refine TL.p (EvP.move rfl) ?_
    refine TL.nil ?_
    refine TX.thenN rfl rfl ?_
    refine TC.block ?_
    refine TC.loop (ι := Nat × Value × List Int × Chunk) (fun (i, v, l1, C) => [(0, .pointer (some ⟨rr, 0, none⟩)), (2, .int .i64 pid), (3, v), (5, .pointer (some ⟨b5, 0, none⟩)), (13, .slice aP (pls Lb pid).length cP), (14, .int .i64 (pls Lb pid).length), (15, .int .i64 i)]) (fun (i, v, l1, C) => C :: EP :: Cr :: D :: [(b5, .cells [.slice ab nb cb, .slice aL live.length cL, .slice aT traps.length cT, .slice aF nF cF].toArray 38 (0, 0))] :: R) (fun (i, v, l1, C) => i ≤ (pls Lb pid).length ∧ SlI v l1 C ∧ LS Lb (okR live traps ds) pid (pls Lb pid) i l l1) (fun (i, v, l1, C) => (pls Lb pid).length - i) ((0, v, l, C)) (⟨Nat.zero_le _, hv, LS.start hln⟩) ⟨rfl, rfl, rfl, rfl, rfl, rfl, rfl, trivial⟩ (by repeat (first | exact Le.refl _ | exact Le.nil _ | refine Le.hit ?_ | refine Le.hit1 ?_ | refine Le.hit2 ?_ | refine Le.hit3 ?_ | refine Le.hit4 ?_ | refine Le.hit5 ?_ | refine Le.hit6 ?_ | refine Le.hit7 ?_ | refine Le.hit8 ?_ | refine Le.hit9 ?_ | refine Le.hit10 ?_ | refine Le.skip ?_)) ?_
    rintro ⟨i, v, l1, C⟩ ⟨hi, hv, hls⟩
    change TC _ _ [(0, .pointer (some ⟨rr, 0, none⟩)), (2, .int .i64 pid), (3, v), (5, .pointer (some ⟨b5, 0, none⟩)), (13, .slice aP (pls Lb pid).length cP), (14, .int .i64 (pls Lb pid).length), (15, .int .i64 i)] (C :: EP :: Cr :: D :: [(b5, .cells [.slice ab nb cb, .slice aL live.length cL, .slice aT traps.length cT, .slice aF nF cF].toArray 38 (0, 0))] :: R) _
    refine TC.seq ?_
    refine TC.region ?_
    refine TL.dec (EvP.lt rfl rfl) (fun h16 => ?_) (fun h16 => ?_)
    · refine TL.nil ?_
      refine TX.thenN rfl rfl ?_
      refine TC.seq ?_
      refine TC.ctrue rfl ?_
      refine TC.skip ?_
      refine TX.thenN rfl rfl ?_
      refine TC.seq ?_
      refine TC.block ?_
      refine TC.seq ?_
      refine TC.region ?_
      have hlt : i < (pls Lb pid).length := by omega
      obtain ⟨q, hx⟩ : ∃ q, (pls Lb pid)[i]? = some q := ⟨_, List.getElem?_eq_getElem hlt⟩
      have hadj : Adj Lb pid q := (mem_peers hok).1 (srt_mem.1 (List.mem_of_getElem? hx))
      have hpk := hls.pids hlive hpk0
      have hl40 := nodup_bound 1099511627776 l1 hls.nd (fun x hx => by have := hpk x hx; simp only [okPid, decide_eq_true_eq] at this; omega)
      refine TL.elem (hEP.el encI_ok (j := i) (x := q) hx (by simp)) Tryd.runUnderlying35 Tryd.sizeOf2 rfl rfl (fun bE oE lE _ _ hE hcE => ?_)
      refine TL.r (EvR.load rfl Tryd.isAgg2 hE hcE.1) ?_
      refine TL.p (EvP.assign rfl) ?_
      refine TL.nil ?_
      refine TX.thenN rfl rfl ?_
      refine TC.seq ?_
      refine TC.seq ?_
      refine TC.region ?_
      refine TL.p (EvP.move rfl) ?_
      refine TL.p (EvP.move rfl) ?_
      refine TL.callA rfl rfl Tryd.call22 (fun w hs => has_spec q (hv.els encI_ok (by simp)) (by omega) hs) ?_
      rintro _ rfl
      refine TL.p (EvP.move rfl) ?_
      refine TL.bsplit 22 rfl (fun h22 => ?_) (fun h22 => ?_)
      · refine TL.gN rfl rfl rfl ?_
        refine TL.gN rfl rfl rfl ?_
        refine TL.gN rfl rfl rfl ?_
        refine TL.gN rfl rfl rfl ?_
        refine TL.gN rfl rfl rfl ?_
        refine TL.p (EvP.pickT rfl rfl) ?_
        refine TL.p (EvP.move rfl) ?_
        refine TL.gN rfl rfl rfl ?_
        refine TL.gN rfl rfl rfl ?_
        refine TL.gN rfl rfl rfl ?_
        refine TL.gN rfl rfl rfl ?_
        refine TL.p (EvP.pickT rfl rfl) ?_
        refine TL.nil ?_
        refine TX.thenN rfl rfl ?_
        refine TC.ctrue rfl ?_
        refine TC.exit ?_
        refine TX.thenE ?_
        refine TX.blkH ?_
        refine TX.thenN rfl rfl ?_
        refine TC.region ?_
        refine TL.p (EvP.add rfl rfl (by omega)) ?_
        refine TL.p (EvP.move rfl) ?_
        refine TL.nil ?_
        refine TX.back ((i + 1, v, l1, C)) (⟨by omega, hv, hls.skip hx (by first | exact .inl (of_decide_eq_true h22) | exact .inr (fun ho => by simp only [Bool.not_eq_true', decide_eq_false_iff_not] at h29; exact h29 ho.1) | exact .inr (fun ho => ho.2.1 (of_decide_eq_true h34)))⟩) (by simp only; omega) ⟨rfl, rfl, rfl, rfl, rfl, rfl, rfl, trivial⟩ (by repeat (first | exact Le.refl _ | exact Le.nil _ | refine Le.hit ?_ | refine Le.hit1 ?_ | refine Le.hit2 ?_ | refine Le.hit3 ?_ | refine Le.hit4 ?_ | refine Le.hit5 ?_ | refine Le.hit6 ?_ | refine Le.hit7 ?_ | refine Le.hit8 ?_ | refine Le.hit9 ?_ | refine Le.hit10 ?_ | refine Le.skip ?_))
      · refine TL.gY rfl rfl rfl ?_
        refine TL.p (EvP.fa (e := 1) rfl Tryd.runUnderlying38 rfl Tryd.sizeOf35 rfl) ?_
        refine TL.gY rfl rfl rfl ?_
        refine TL.r (EvR.load rfl Tryd.isAgg35 (AtB.own (by repeat (first | exact Has.hd | refine Has.tlb ?_ | refine Has.tlc ?_))) (by rfl)) ?_
        refine TL.gY rfl rfl rfl ?_
        refine TL.p (EvP.move rfl) ?_
        refine TL.gY rfl rfl rfl ?_
        refine TL.callA rfl rfl Tryd.call22 (fun w hs => has_spec q heL.came (by omega) hs) ?_
        rintro _ rfl
        refine TL.gY rfl rfl rfl ?_
        refine TL.p (EvP.not rfl) ?_
        refine TL.p (EvP.pickF rfl rfl) ?_
        refine TL.p (EvP.move rfl) ?_
        refine TL.bsplit 29 rfl (fun h29 => ?_) (fun h29 => ?_)
        · refine TL.gN rfl rfl rfl ?_
          refine TL.gN rfl rfl rfl ?_
          refine TL.gN rfl rfl rfl ?_
          refine TL.gN rfl rfl rfl ?_
          refine TL.p (EvP.pickT rfl rfl) ?_
          refine TL.nil ?_
          refine TX.thenN rfl rfl ?_
          refine TC.ctrue rfl ?_
          refine TC.exit ?_
          refine TX.thenE ?_
          refine TX.blkH ?_
          refine TX.thenN rfl rfl ?_
          refine TC.region ?_
          refine TL.p (EvP.add rfl rfl (by omega)) ?_
          refine TL.p (EvP.move rfl) ?_
          refine TL.nil ?_
          refine TX.back ((i + 1, v, l1, C)) (⟨by omega, hv, hls.skip hx (by first | exact .inl (of_decide_eq_true h22) | exact .inr (fun ho => by simp only [Bool.not_eq_true', decide_eq_false_iff_not] at h29; exact h29 ho.1) | exact .inr (fun ho => ho.2.1 (of_decide_eq_true h34)))⟩) (by simp only; omega) ⟨rfl, rfl, rfl, rfl, rfl, rfl, rfl, trivial⟩ (by repeat (first | exact Le.refl _ | exact Le.nil _ | refine Le.hit ?_ | refine Le.hit1 ?_ | refine Le.hit2 ?_ | refine Le.hit3 ?_ | refine Le.hit4 ?_ | refine Le.hit5 ?_ | refine Le.hit6 ?_ | refine Le.hit7 ?_ | refine Le.hit8 ?_ | refine Le.hit9 ?_ | refine Le.hit10 ?_ | refine Le.skip ?_))
        · refine TL.gY rfl rfl rfl ?_
          refine TL.p (EvP.fa (e := 2) rfl Tryd.runUnderlying38 rfl Tryd.sizeOf35 rfl) ?_
          refine TL.gY rfl rfl rfl ?_
          refine TL.r (EvR.load rfl Tryd.isAgg35 (AtB.own (by repeat (first | exact Has.hd | refine Has.tlb ?_ | refine Has.tlc ?_))) (by rfl)) ?_
          refine TL.gY rfl rfl rfl ?_
          refine TL.p (EvP.move rfl) ?_
          refine TL.gY rfl rfl rfl ?_
          refine TL.callA rfl rfl Tryd.call22 (fun w hs => has_spec q heT.came (by omega) hs) ?_
          rintro _ rfl
          refine TL.p (EvP.pickF rfl rfl) ?_
          refine TL.nil ?_
          refine TX.thenN rfl rfl ?_
          refine TC.cond rfl (fun h34 => ?_) (fun h34 => ?_)
          · refine TC.exit ?_
            refine TX.thenE ?_
            refine TX.blkH ?_
            refine TX.thenN rfl rfl ?_
            refine TC.region ?_
            refine TL.p (EvP.add rfl rfl (by omega)) ?_
            refine TL.p (EvP.move rfl) ?_
            refine TL.nil ?_
            refine TX.back ((i + 1, v, l1, C)) (⟨by omega, hv, hls.skip hx (by first | exact .inl (of_decide_eq_true h22) | exact .inr (fun ho => by simp only [Bool.not_eq_true', decide_eq_false_iff_not] at h29; exact h29 ho.1) | exact .inr (fun ho => ho.2.1 (of_decide_eq_true h34)))⟩) (by simp only; omega) ⟨rfl, rfl, rfl, rfl, rfl, rfl, rfl, trivial⟩ (by repeat (first | exact Le.refl _ | exact Le.nil _ | refine Le.hit ?_ | refine Le.hit1 ?_ | refine Le.hit2 ?_ | refine Le.hit3 ?_ | refine Le.hit4 ?_ | refine Le.hit5 ?_ | refine Le.hit6 ?_ | refine Le.hit7 ?_ | refine Le.hit8 ?_ | refine Le.hit9 ?_ | refine Le.hit10 ?_ | refine Le.skip ?_))
          · refine TC.skip ?_
            refine TX.thenN rfl rfl ?_
            refine TC.seq ?_
            refine TC.region ?_
            refine TL.p (EvP.move rfl) ?_
            refine TL.p (EvP.move rfl) ?_
            have hoq : okR live traps ds q := ⟨by simp only [Bool.not_eq_false', decide_eq_true_eq] at h29; exact h29, of_decide_eq_false h34, fun hf => of_decide_eq_false h22 (hls.sub q (hsubF q hf))⟩
            refine TL.lit1 q rfl elI Tryd.underlying35 (by decide) (by decide) encI_ok rfl (fun u1 D1 hD1 => ?_)
            refine TL.le (Le.hit1 (Le.refl _)) ?_
            refine TL.append rfl rfl elI Tryd.underlying35 encI_ok hv (SrcR.sl Tryd.underlying35 encI_ok hD1 (by simp)) (by simp only [List.length_singleton]; omega) (by decide) (fun v2 C2 hv2 => ?_)
            refine TL.p (EvP.assign rfl) ?_
            refine TL.nil ?_
            refine TX.thenN rfl rfl ?_
            refine TC.region ?_
            refine TL.p (EvP.move rfl) ?_
            refine TL.r (EvR.loadN (vs := [_, _, _, _]) rfl Tryd.isAgg38 Tryd.sizeOf38 (AtB.own (by repeat (first | exact Has.hd | refine Has.tlb ?_ | refine Has.tlc ?_))) (by exact ⟨rfl, rfl, rfl, rfl,  trivial⟩)) ?_
            refine TL.p (EvP.move rfl) ?_
            refine TL.p (EvP.move rfl) ?_
            refine TL.le (Le.hit (Le.hit2 (Le.hit2 (Le.refl _)))) ?_
            refine TL.callB rfl rfl Tryd.call21 (fun w hs => ih q (by have := mz_lt hls.sub hoq.1 (of_decide_eq_false h22); omega) hR hv2 (nodup_snoc hls.nd (of_decide_eq_false h22)) (fun x hx => List.mem_append.2 (.inl (hls.sub x (hsubF x hx)))) (fun x hx => (List.mem_append.1 hx).elim (hpk x) (fun h => by rw [List.mem_singleton.1 h]; exact hlive q hoq.1)) hs) ?_
            rintro _ C3 ⟨l3, hv3, hrs⟩
            refine TL.p (EvP.assign rfl) ?_
            refine TL.nil ?_
            refine TX.blkN ?_
            refine TX.thenN rfl rfl ?_
            refine TC.region ?_
            refine TL.p (EvP.add rfl rfl (by omega)) ?_
            refine TL.p (EvP.move rfl) ?_
            refine TL.nil ?_
            refine TX.back ((i + 1, _, l3, C3)) (⟨by omega, hv3, hls.go hx hadj hoq (of_decide_eq_false h22) hrs⟩) (by simp only; omega) ⟨rfl, rfl, rfl, rfl, rfl, rfl, rfl, trivial⟩ (by repeat (first | exact Le.refl _ | exact Le.nil _ | refine Le.hit ?_ | refine Le.hit1 ?_ | refine Le.hit2 ?_ | refine Le.hit3 ?_ | refine Le.hit4 ?_ | refine Le.hit5 ?_ | refine Le.hit6 ?_ | refine Le.hit7 ?_ | refine Le.hit8 ?_ | refine Le.hit9 ?_ | refine Le.hit10 ?_ | refine Le.skip ?_))
    · refine TL.nil ?_
      refine TX.thenN rfl rfl ?_
      refine TC.seq ?_
      refine TC.cfalse rfl ?_
      refine TC.exit ?_
      refine TX.thenE ?_
      refine TX.thenE ?_
      refine TX.blkH ?_
      refine TX.thenN rfl rfl ?_
      refine TC.seq ?_
      refine TC.region ?_
      refine TL.p (EvP.move rfl) ?_
      refine TL.p (EvP.assign rfl) ?_
      refine TL.nil ?_
      refine TX.thenN rfl rfl ?_
      refine TC.ret ?_
      refine TX.done rfl (Res.one rfl rfl) (fun w hs => Post1.mk (C := C) hs ⟨l1, hv, hls.done hok (by omega)⟩ (by repeat (first | exact Le.refl _ | exact Le.nil _ | refine Le.hit ?_ | refine Le.hit1 ?_ | refine Le.hit2 ?_ | refine Le.hit3 ?_ | refine Le.hit4 ?_ | refine Le.hit5 ?_ | refine Le.hit6 ?_ | refine Le.hit7 ?_ | refine Le.hit8 ?_ | refine Le.hit9 ?_ | refine Le.hit10 ?_ | refine Le.skip ?_)))

theorem reach_walk {w0 w : World} {R : List Chunk} {vb vl vt vf : Value} {ops : List LOp} {live traps : List Int} {dvs : List Dv} {ds : List Dth} (hT : Tabs w0) (heO : Els (fun w => w = w0) vb 4 LOp.enc 82 ops) (heL : Els (fun w => w = w0) vl 1 (one (Value.int .i64)) 2 live) (heT : Els (fun w => w = w0) vt 1 (one (Value.int .i64)) 2 traps) (hF : Fst (fun w => w = w0) vf dvs ds) (hzo : ops.length < 4611686018427387904) (hzl : live.length ≤ 17592186044416) (hzt : traps.length ≤ 17592186044416) (hzd : dvs.length ≤ 4398046511000) (hdz : ∀ d ∈ ds, d.2.length ≤ 4398046511000) (hst : St w0 w R) : Calls Tryd.prog 5 #[.agg #[vb, vl, vt, vf]] w (Post0 w0 R fun u => u = .bool true) := by
  obtain ⟨⟨ab, cb, rfl⟩, _⟩ := id heO
  obtain ⟨⟨aL, cL, rfl⟩, _⟩ := id heL
  obtain ⟨⟨aT, cT, rfl⟩, _⟩ := id heT
  obtain ⟨⟨aF, cF, rfl⟩, _⟩ := id hF.els
  refine calls_of (args := [_]) Tryd.func5 rfl Tryd.ntmps5 hst ?_
  refine TC.seq ?_
  refine TC.region ?_
  refine TL.box rfl rfl (fun b1 => ?_)
  refine TL.p (EvP.assign rfl) ?_
  refine TL.nil ?_
  refine TX.thenN rfl rfl ?_
  refine TC.seq ?_
  refine TC.region ?_
  refine TL.p (EvP.fa (e := 0) rfl Tryd.runUnderlying38 rfl Tryd.sizeOf34 rfl) ?_
  refine TL.r (EvR.load rfl Tryd.isAgg34 (AtB.own (by repeat (first | exact Has.hd | refine Has.tlb ?_ | refine Has.tlc ?_))) (by rfl)) ?_
  refine TL.callD rfl rfl Tryd.call19 (fun w hs => made_spec heO hzo hs) ?_
  rintro _ C Cr D ⟨g, rr, rfl, hG, hR⟩
  have hok := hG.ok
  refine TL.p (EvP.move rfl) ?_
  refine TL.p (EvP.extract rfl rfl) ?_
  refine TL.p (EvP.extract rfl rfl) ?_
  refine TL.p (EvP.assign rfl) ?_
  refine TL.p (EvP.assign rfl) ?_
  refine TL.nil ?_
  refine TX.thenN rfl rfl ?_
  refine TC.seq ?_
  refine TC.seq ?_
  refine TC.region ?_
  refine TL.p (EvP.move rfl) ?_
  refine TL.p (EvP.eqPtrNil Tryd.runUnderlying43 rfl rfl) ?_
  refine TL.nil ?_
  refine TX.thenN rfl rfl ?_
  refine TC.cfalse rfl ?_
  refine TC.skip ?_
  refine TX.thenN rfl rfl ?_
  refine TC.seq ?_
  refine TC.region ?_
  refine TL.p (EvP.move rfl) ?_
  refine TL.p (EvP.fa (e := 1) rfl Tryd.runUnderlying38 rfl Tryd.sizeOf35 rfl) ?_
  refine TL.r (EvR.load rfl Tryd.isAgg35 (AtB.own (by repeat (first | exact Has.hd | refine Has.tlb ?_ | refine Has.tlc ?_))) (by rfl)) ?_
  refine TL.p (EvP.fa (e := 2) rfl Tryd.runUnderlying38 rfl Tryd.sizeOf35 rfl) ?_
  refine TL.r (EvR.load rfl Tryd.isAgg35 (AtB.own (by repeat (first | exact Has.hd | refine Has.tlb ?_ | refine Has.tlc ?_))) (by rfl)) ?_
  refine TL.p (EvP.fa (e := 3) rfl Tryd.runUnderlying38 rfl Tryd.sizeOf36 rfl) ?_
  refine TL.r (EvR.load rfl Tryd.isAgg36 (AtB.own (by repeat (first | exact Has.hd | refine Has.tlb ?_ | refine Has.tlc ?_))) (by rfl)) ?_
  by_cases hwr : wrongM live traps ds = 0
  · refine TL.call rfl rfl Tryd.call18 (fun w hs => spread_ok hT hG heL.came heT.came hF.came hzl hzt (by omega) hdz hwr hs) ?_
    rintro _ _ ⟨Cg, D8, E8, Dt, Et, dv8, tv8, dvs8, tvs8, s, rfl, rfl, hKs, hsok, _, hdv, hdr, _, _⟩
    obtain ⟨hz1, hz2, hz3, hz4, hz5, hz6⟩ := wrong_zero hwr
    have hsi : SI (mkL ops) live traps ds s.1.ds.length s.1 s.2 := by obtain ⟨K, rfl, hK⟩ := hKs; rw [hK]; exact spN_si hok hz5 K
    obtain ⟨a8, c8, rfl, _, _⟩ := id hdv.len
    have h8 := hdr.1
    have hn40 := setL_len hz1
    have hslen := hsok.len
    refine TL.p (EvP.move rfl) ?_
    refine TL.p (EvP.extract rfl rfl) ?_
    refine TL.p (EvP.extract rfl rfl) ?_
    refine TL.p (EvP.extract rfl rfl) ?_
    refine TL.p (EvP.assign rfl) ?_
    refine TL.p (EvP.assign rfl) ?_
    refine TL.p (EvP.assign rfl) ?_
    refine TL.nil ?_
    refine TX.thenN rfl rfl ?_
    refine TC.seq ?_
    refine TC.seq ?_
    refine TC.region ?_
    refine TL.p (EvP.move rfl) ?_
    refine TL.p (EvP.isF (EvP.ne rfl rfl) (by decide)) ?_
    refine TL.nil ?_
    refine TX.thenN rfl rfl ?_
    refine TC.cfalse rfl ?_
    refine TC.skip ?_
    refine TX.thenN rfl rfl ?_
    refine TC.seq ?_
    refine TC.region ?_
    refine TL.p (EvP.assign rfl) ?_
    refine TL.p (EvP.assign rfl) ?_
    refine TL.nil ?_
    refine TX.thenN rfl rfl ?_
    refine TC.seq ?_
    refine TC.seq ?_
    refine TC.region ?_
    refine TL.le Le.nilC ?_
    refine TL.p (EvP.move rfl) ?_
    refine TL.p (EvP.lenS Tryd.runUnderlying36 rfl) ?_
    refine TL.p (EvP.move rfl) ?_
    refine TL.nil ?_
    refine TX.thenN rfl rfl ?_
    refine TC.block ?_
    refine TC.loop (ι := Nat × Value × Chunk) (fun (i, v8, Ce) => [(1, .pointer (some ⟨b1, 0, none⟩)), (4, .pointer (some ⟨rr, 0, none⟩)), (8, v8), (9, .slice none 0 0), (41, .slice a8 dvs8.length c8), (42, .int .i64 dvs8.length), (43, .int .i64 i)]) (fun (i, v8, Ce) => Ce :: Cr :: D :: D8 :: E8 :: [(b1, .cells [.slice ab ops.length cb, .slice aL live.length cL, .slice aT traps.length cT, .slice aF dvs.length cF].toArray 38 (0, 0))] :: R) (fun (i, v8, Ce) => i ≤ dvs8.length ∧ SlI v8 ((dvs8.map (·.p)).take i) Ce) (fun (i, v8, Ce) => dvs8.length - i) ((0, .slice none 0 0, [])) (⟨Nat.zero_le _, Sl.nil⟩) ⟨rfl, rfl, rfl, rfl, rfl, rfl, rfl, trivial⟩ (by repeat (first | exact Le.refl _ | exact Le.nil _ | refine Le.hit ?_ | refine Le.hit1 ?_ | refine Le.hit2 ?_ | refine Le.hit3 ?_ | refine Le.hit4 ?_ | refine Le.hit5 ?_ | refine Le.hit6 ?_ | refine Le.hit7 ?_ | refine Le.hit8 ?_ | refine Le.hit9 ?_ | refine Le.hit10 ?_ | refine Le.skip ?_)) ?_
    rintro ⟨i, v8, Ce⟩ ⟨hi, hve⟩
    change TC _ _ [(1, .pointer (some ⟨b1, 0, none⟩)), (4, .pointer (some ⟨rr, 0, none⟩)), (8, v8), (9, .slice none 0 0), (41, .slice a8 dvs8.length c8), (42, .int .i64 dvs8.length), (43, .int .i64 i)] (Ce :: Cr :: D :: D8 :: E8 :: [(b1, .cells [.slice ab ops.length cb, .slice aL live.length cL, .slice aT traps.length cT, .slice aF dvs.length cF].toArray 38 (0, 0))] :: R) _
    refine TC.seq ?_
    refine TC.region ?_
    refine TL.dec (EvP.lt rfl rfl) (fun h44 => ?_) (fun h44 => ?_)
    · refine TL.nil ?_
      refine TX.thenN rfl rfl ?_
      refine TC.seq ?_
      refine TC.ctrue rfl ?_
      refine TC.skip ?_
      refine TX.thenN rfl rfl ?_
      refine TC.seq ?_
      refine TC.block ?_
      refine TC.seq ?_
      refine TC.region ?_
      have hlt : i < dvs8.length := by omega
      obtain ⟨x, hx0⟩ : ∃ x, dvs8[i]? = some x := ⟨_, List.getElem?_eq_getElem hlt⟩
      have hx : (dvs8.map (·.p))[i]? = some x.p := by rw [List.getElem?_map, hx0]; rfl
      refine TL.elem (hdv.el encD_ok hx0 (by simp)) Tryd.runUnderlying36 Tryd.sizeOf48 rfl rfl (fun bE oE lE _ _ hE hcE => ?_)
      refine TL.r (EvR.loadN (vs := [_, _]) rfl Tryd.isAgg48 Tryd.sizeOf48 hE hcE) ?_
      refine TL.alloc Tryd.zeroValue48 rfl (fun b11 => ?_)
      refine TL.u (EvU.store rfl rfl Tryd.sizeOf48 rfl rfl rfl rfl (by repeat (first | exact Has.hd | refine Has.tlb ?_ | refine Has.tlc ?_)) (by repeat (first | exact SetLs.nil | exact SetL.here | apply SetLs.cons | apply SetL.there)) (by repeat (first | exact Upd.hd | apply Upd.tlb | apply Upd.tlc))) ?_
      refine TL.nil ?_
      refine TX.thenN rfl rfl ?_
      refine TC.region ?_
      refine TL.p (EvP.move rfl) ?_
      refine TL.p (EvP.fa (e := 0) rfl Tryd.runUnderlying48 rfl Tryd.sizeOf2 rfl) ?_
      refine TL.r (EvR.load rfl Tryd.isAgg2 (AtB.own (by repeat (first | exact Has.hd | refine Has.tlb ?_ | refine Has.tlc ?_))) (by rfl)) ?_
      refine TL.lit1 (x.p) rfl elI Tryd.underlying35 (by decide) (by decide) encI_ok rfl (fun u1 D2 hD2 => ?_)
      refine TL.le (Le.hit2 (Le.refl _)) ?_
      refine TL.append rfl rfl elI Tryd.underlying35 encI_ok hve (SrcR.sl Tryd.underlying35 encI_ok hD2 (by simp)) (by rw [List.length_take]; simp only [List.length_map, List.length_singleton]; omega) (by decide) (fun v3 C4 hC4 => ?_)
      refine TL.p (EvP.assign rfl) ?_
      refine TL.nil ?_
      refine TX.blkN ?_
      refine TX.thenN rfl rfl ?_
      refine TC.region ?_
      refine TL.p (EvP.add rfl rfl (by omega)) ?_
      refine TL.p (EvP.move rfl) ?_
      refine TL.nil ?_
      refine TX.back ((i + 1, v3, C4)) (⟨by omega, by rw [take_snoc hx]; exact hC4⟩) (by simp only; omega) ⟨rfl, rfl, rfl, rfl, rfl, rfl, rfl, trivial⟩ (by repeat (first | exact Le.refl _ | exact Le.nil _ | refine Le.hit ?_ | refine Le.hit1 ?_ | refine Le.hit2 ?_ | refine Le.hit3 ?_ | refine Le.hit4 ?_ | refine Le.hit5 ?_ | refine Le.hit6 ?_ | refine Le.hit7 ?_ | refine Le.hit8 ?_ | refine Le.hit9 ?_ | refine Le.hit10 ?_ | refine Le.skip ?_))
    · refine TL.nil ?_
      refine TX.thenN rfl rfl ?_
      refine TC.seq ?_
      refine TC.cfalse rfl ?_
      refine TC.exit ?_
      refine TX.thenE ?_
      refine TX.thenE ?_
      refine TX.blkH ?_
      refine TX.thenN rfl rfl ?_
      refine TC.seq ?_
      refine TC.seq ?_
      refine TC.region ?_
      rw [List.take_of_length_le (by simp; omega), hdr.pids] at hve
      refine TL.le Le.nilC ?_
      refine TL.p (EvP.fa (e := 3) rfl Tryd.runUnderlying38 rfl Tryd.sizeOf36 rfl) ?_
      refine TL.r (EvR.load rfl Tryd.isAgg36 (AtB.own (by repeat (first | exact Has.hd | refine Has.tlb ?_ | refine Has.tlc ?_))) (by rfl)) ?_
      refine TL.p (EvP.lenS Tryd.runUnderlying36 rfl) ?_
      refine TL.p (EvP.move rfl) ?_
      refine TL.nil ?_
      refine TX.thenN rfl rfl ?_
      refine TC.block ?_
      refine TC.loop (ι := Nat × Value × Chunk) (fun (i, v, Cw) => [(1, .pointer (some ⟨b1, 0, none⟩)), (4, .pointer (some ⟨rr, 0, none⟩)), (8, v8), (9, v), (54, .slice aF dvs.length cF), (55, .int .i64 dvs.length), (56, .int .i64 i)]) (fun (i, v, Cw) => Cw :: Ce :: Cr :: D :: D8 :: E8 :: [(b1, .cells [.slice ab ops.length cb, .slice aL live.length cL, .slice aT traps.length cT, .slice aF dvs.length cF].toArray 38 (0, 0))] :: R) (fun (i, v, Cw) => i ≤ dvs.length ∧ SlI v ((dvs.map (·.p)).take i) Cw) (fun (i, v, Cw) => dvs.length - i) ((0, .slice none 0 0, [])) (⟨Nat.zero_le _, Sl.nil⟩) ⟨rfl, rfl, rfl, rfl, rfl, rfl, rfl, trivial⟩ (by repeat (first | exact Le.refl _ | exact Le.nil _ | refine Le.hit ?_ | refine Le.hit1 ?_ | refine Le.hit2 ?_ | refine Le.hit3 ?_ | refine Le.hit4 ?_ | refine Le.hit5 ?_ | refine Le.hit6 ?_ | refine Le.hit7 ?_ | refine Le.hit8 ?_ | refine Le.hit9 ?_ | refine Le.hit10 ?_ | refine Le.skip ?_)) ?_
      rintro ⟨i, v, Cw⟩ ⟨hi, hv⟩
      change TC _ _ [(1, .pointer (some ⟨b1, 0, none⟩)), (4, .pointer (some ⟨rr, 0, none⟩)), (8, v8), (9, v), (54, .slice aF dvs.length cF), (55, .int .i64 dvs.length), (56, .int .i64 i)] (Cw :: Ce :: Cr :: D :: D8 :: E8 :: [(b1, .cells [.slice ab ops.length cb, .slice aL live.length cL, .slice aT traps.length cT, .slice aF dvs.length cF].toArray 38 (0, 0))] :: R) _
      refine TC.seq ?_
      refine TC.region ?_
      refine TL.dec (EvP.lt rfl rfl) (fun h57 => ?_) (fun h57 => ?_)
      · refine TL.nil ?_
        refine TX.thenN rfl rfl ?_
        refine TC.seq ?_
        refine TC.ctrue rfl ?_
        refine TC.skip ?_
        refine TX.thenN rfl rfl ?_
        refine TC.seq ?_
        refine TC.block ?_
        refine TC.seq ?_
        refine TC.region ?_
        have hlt : i < dvs.length := by omega
        obtain ⟨x, hx0⟩ : ∃ x, dvs[i]? = some x := ⟨_, List.getElem?_eq_getElem hlt⟩
        have hx : (dvs.map (·.p))[i]? = some x.p := by rw [List.getElem?_map, hx0]; rfl
        refine TL.elem (hF.els.came.elAt hx0) Tryd.runUnderlying36 Tryd.sizeOf48 rfl rfl (fun bE oE lE _ _ hE hcE => ?_)
        refine TL.r (EvR.loadN (vs := [_, _]) rfl Tryd.isAgg48 Tryd.sizeOf48 hE hcE) ?_
        refine TL.alloc Tryd.zeroValue48 rfl (fun b13 => ?_)
        refine TL.u (EvU.store rfl rfl Tryd.sizeOf48 rfl rfl rfl rfl (by repeat (first | exact Has.hd | refine Has.tlb ?_ | refine Has.tlc ?_)) (by repeat (first | exact SetLs.nil | exact SetL.here | apply SetLs.cons | apply SetL.there)) (by repeat (first | exact Upd.hd | apply Upd.tlb | apply Upd.tlc))) ?_
        refine TL.nil ?_
        refine TX.thenN rfl rfl ?_
        refine TC.region ?_
        refine TL.p (EvP.move rfl) ?_
        refine TL.p (EvP.fa (e := 0) rfl Tryd.runUnderlying48 rfl Tryd.sizeOf2 rfl) ?_
        refine TL.r (EvR.load rfl Tryd.isAgg2 (AtB.own (by repeat (first | exact Has.hd | refine Has.tlb ?_ | refine Has.tlc ?_))) (by rfl)) ?_
        refine TL.lit1 (x.p) rfl elI Tryd.underlying35 (by decide) (by decide) encI_ok rfl (fun u5 D6 hD6 => ?_)
        refine TL.le (Le.hit2 (Le.refl _)) ?_
        refine TL.append rfl rfl elI Tryd.underlying35 encI_ok hv (SrcR.sl Tryd.underlying35 encI_ok hD6 (by simp)) (by rw [List.length_take]; simp only [List.length_map, List.length_singleton]; omega) (by decide) (fun v7 C8 hC8 => ?_)
        refine TL.p (EvP.assign rfl) ?_
        refine TL.nil ?_
        refine TX.blkN ?_
        refine TX.thenN rfl rfl ?_
        refine TC.region ?_
        refine TL.p (EvP.add rfl rfl (by omega)) ?_
        refine TL.p (EvP.move rfl) ?_
        refine TL.nil ?_
        refine TX.back ((i + 1, v7, C8)) (⟨by omega, by rw [take_snoc hx]; exact hC8⟩) (by simp only; omega) ⟨rfl, rfl, rfl, rfl, rfl, rfl, rfl, trivial⟩ (by repeat (first | exact Le.refl _ | exact Le.nil _ | refine Le.hit ?_ | refine Le.hit1 ?_ | refine Le.hit2 ?_ | refine Le.hit3 ?_ | refine Le.hit4 ?_ | refine Le.hit5 ?_ | refine Le.hit6 ?_ | refine Le.hit7 ?_ | refine Le.hit8 ?_ | refine Le.hit9 ?_ | refine Le.hit10 ?_ | refine Le.skip ?_))
      · refine TL.nil ?_
        refine TX.thenN rfl rfl ?_
        refine TC.seq ?_
        refine TC.cfalse rfl ?_
        refine TC.exit ?_
        refine TX.thenE ?_
        refine TX.thenE ?_
        refine TX.blkH ?_
        refine TX.thenN rfl rfl ?_
        refine TC.seq ?_
        refine TC.seq ?_
        refine TC.region ?_
        rw [List.take_of_length_le (by simp; omega), hF.rel.pids] at hv
        refine TL.p (EvP.fa (e := 3) rfl Tryd.runUnderlying38 rfl Tryd.sizeOf36 rfl) ?_
        refine TL.r (EvR.load rfl Tryd.isAgg36 (AtB.own (by repeat (first | exact Has.hd | refine Has.tlb ?_ | refine Has.tlc ?_))) (by rfl)) ?_
        refine TL.p (EvP.lenS Tryd.runUnderlying36 rfl) ?_
        refine TL.p (EvP.move rfl) ?_
        refine TL.nil ?_
        refine TX.thenN rfl rfl ?_
        refine TC.block ?_
        refine TC.loop (ι := Nat × Value × List Int × Chunk) (fun (i, v, l, Cw) => [(1, .pointer (some ⟨b1, 0, none⟩)), (4, .pointer (some ⟨rr, 0, none⟩)), (8, v8), (9, v), (67, .slice aF dvs.length cF), (68, .int .i64 dvs.length), (69, .int .i64 i)]) (fun (i, v, l, Cw) => Cw :: Ce :: Cr :: D :: D8 :: E8 :: [(b1, .cells [.slice ab ops.length cb, .slice aL live.length cL, .slice aT traps.length cT, .slice aF dvs.length cF].toArray 38 (0, 0))] :: R) (fun (i, v, l, Cw) => i ≤ dvs.length ∧ SlI v l Cw ∧ WS (mkL ops) live traps ds i l) (fun (i, v, l, Cw) => dvs.length - i) ((0, v, ds.map (·.1), Cw)) (⟨Nat.zero_le _, hv, WS.start hz5⟩) ⟨rfl, rfl, rfl, rfl, rfl, rfl, rfl, trivial⟩ (by repeat (first | exact Le.refl _ | exact Le.nil _ | refine Le.hit ?_ | refine Le.hit1 ?_ | refine Le.hit2 ?_ | refine Le.hit3 ?_ | refine Le.hit4 ?_ | refine Le.hit5 ?_ | refine Le.hit6 ?_ | refine Le.hit7 ?_ | refine Le.hit8 ?_ | refine Le.hit9 ?_ | refine Le.hit10 ?_ | refine Le.skip ?_)) ?_
        rintro ⟨i, v, l, Cw⟩ ⟨hi, hv, hws⟩
        change TC _ _ [(1, .pointer (some ⟨b1, 0, none⟩)), (4, .pointer (some ⟨rr, 0, none⟩)), (8, v8), (9, v), (67, .slice aF dvs.length cF), (68, .int .i64 dvs.length), (69, .int .i64 i)] (Cw :: Ce :: Cr :: D :: D8 :: E8 :: [(b1, .cells [.slice ab ops.length cb, .slice aL live.length cL, .slice aT traps.length cT, .slice aF dvs.length cF].toArray 38 (0, 0))] :: R) _
        refine TC.seq ?_
        refine TC.region ?_
        refine TL.dec (EvP.lt rfl rfl) (fun h70 => ?_) (fun h70 => ?_)
        · refine TL.nil ?_
          refine TX.thenN rfl rfl ?_
          refine TC.seq ?_
          refine TC.ctrue rfl ?_
          refine TC.skip ?_
          refine TX.thenN rfl rfl ?_
          refine TC.seq ?_
          refine TC.block ?_
          refine TC.seq ?_
          refine TC.region ?_
          have hlt : i < dvs.length := by omega
          obtain ⟨x, hx0⟩ : ∃ x, dvs[i]? = some x := ⟨_, List.getElem?_eq_getElem hlt⟩
          obtain ⟨d, hd, hp, hr⟩ := hF.rel.at hx0
          refine TL.elem (hF.els.came.elAt hx0) Tryd.runUnderlying36 Tryd.sizeOf48 rfl rfl (fun bE oE lE _ _ hE hcE => ?_)
          refine TL.r (EvR.loadN (vs := [_, _]) rfl Tryd.isAgg48 Tryd.sizeOf48 hE hcE) ?_
          refine TL.alloc Tryd.zeroValue48 rfl (fun b15 => ?_)
          refine TL.u (EvU.store rfl rfl Tryd.sizeOf48 rfl rfl rfl rfl (by repeat (first | exact Has.hd | refine Has.tlb ?_ | refine Has.tlc ?_)) (by repeat (first | exact SetLs.nil | exact SetL.here | apply SetLs.cons | apply SetL.there)) (by repeat (first | exact Upd.hd | apply Upd.tlb | apply Upd.tlc))) ?_
          refine TL.nil ?_
          refine TX.thenN rfl rfl ?_
          refine TC.seq ?_
          refine TC.seq ?_
          refine TC.region ?_
          refine TL.p (EvP.fa (e := 1) rfl Tryd.runUnderlying48 rfl Tryd.sizeOf22 rfl) ?_
          refine TL.r (EvR.load rfl Tryd.isAgg22 (AtB.own (by repeat (first | exact Has.hd | refine Has.tlb ?_ | refine Has.tlc ?_))) (by rfl)) ?_
          refine TL.callA rfl rfl Tryd.call20 (fun w hs => rIs_spec hr.came normalS hs) ?_
          rintro _ rfl
          refine TL.nil ?_
          refine TX.thenN rfl rfl ?_
          refine TC.cond rfl (fun h75 => ?_) (fun h75 => ?_)
          · refine TC.exit ?_
            refine TX.thenE ?_
            refine TX.blkH ?_
            refine TX.thenN rfl rfl ?_
            refine TC.region ?_
            refine TL.p (EvP.add rfl rfl (by omega)) ?_
            refine TL.p (EvP.move rfl) ?_
            refine TL.nil ?_
            refine TX.back ((i + 1, v, l, Cw)) (⟨by omega, hv, hws.skip hd (by simpa using h75)⟩) (by simp only; omega) ⟨rfl, rfl, rfl, rfl, rfl, rfl, rfl, trivial⟩ (by repeat (first | exact Le.refl _ | exact Le.nil _ | refine Le.hit ?_ | refine Le.hit1 ?_ | refine Le.hit2 ?_ | refine Le.hit3 ?_ | refine Le.hit4 ?_ | refine Le.hit5 ?_ | refine Le.hit6 ?_ | refine Le.hit7 ?_ | refine Le.hit8 ?_ | refine Le.hit9 ?_ | refine Le.hit10 ?_ | refine Le.skip ?_))
          · refine TC.skip ?_
            refine TX.thenN rfl rfl ?_
            refine TC.region ?_
            refine TL.p (EvP.move rfl) ?_
            refine TL.r (EvR.loadN (vs := [_, _, _, _]) rfl Tryd.isAgg38 Tryd.sizeOf38 (AtB.own (by repeat (first | exact Has.hd | refine Has.tlb ?_ | refine Has.tlc ?_))) (by exact ⟨rfl, rfl, rfl, rfl,  trivial⟩)) ?_
            refine TL.p (EvP.fa (e := 0) rfl Tryd.runUnderlying48 rfl Tryd.sizeOf2 rfl) ?_
            refine TL.r (EvR.load rfl Tryd.isAgg2 (AtB.own (by repeat (first | exact Has.hd | refine Has.tlb ?_ | refine Has.tlc ?_))) (by rfl)) ?_
            refine TL.p (EvP.move rfl) ?_
            refine TL.le (Le.hit1 (Le.hit2 (Le.hit2 (Le.refl _)))) ?_
            refine TL.callB rfl rfl Tryd.call21 (fun w hs => reached_spec heL heT hok hz1 hzl hzt (mz live l + 1) x.p (by omega) hR hv hws.nd hws.pre (hws.pids hz1 hz3) hs) ?_
            rintro _ C3 ⟨l3, hv3, hrs⟩
            refine TL.p (EvP.assign rfl) ?_
            refine TL.nil ?_
            refine TX.blkN ?_
            refine TX.thenN rfl rfl ?_
            refine TC.region ?_
            refine TL.p (EvP.add rfl rfl (by omega)) ?_
            refine TL.p (EvP.move rfl) ?_
            refine TL.nil ?_
            refine TX.back ((i + 1, _, l3, C3)) (⟨by omega, hv3, hws.go hd (by simpa using h75) (by rw [← hp]; exact hrs)⟩) (by simp only; omega) ⟨rfl, rfl, rfl, rfl, rfl, rfl, rfl, trivial⟩ (by repeat (first | exact Le.refl _ | exact Le.nil _ | refine Le.hit ?_ | refine Le.hit1 ?_ | refine Le.hit2 ?_ | refine Le.hit3 ?_ | refine Le.hit4 ?_ | refine Le.hit5 ?_ | refine Le.hit6 ?_ | refine Le.hit7 ?_ | refine Le.hit8 ?_ | refine Le.hit9 ?_ | refine Le.hit10 ?_ | refine Le.skip ?_))
        · refine TL.nil ?_
          refine TX.thenN rfl rfl ?_
          refine TC.seq ?_
          refine TC.cfalse rfl ?_
          refine TC.exit ?_
          refine TX.thenE ?_
          refine TX.thenE ?_
          refine TX.blkH ?_
          refine TX.thenN rfl rfl ?_
          refine TC.seq ?_
          refine TC.seq ?_
          refine TC.region ?_
          have hi3 : i = ds.length := by have := hF.rel.1; omega
          subst hi3
          obtain ⟨hiff, hll⟩ := reach_same hsi hws
          obtain ⟨aE, cE, rfl, _, _⟩ := id hve.len
          obtain ⟨aW, cW, rfl, _, _⟩ := id hv.len
          have hl40 : l.length ≤ 1099511627776 := by rw [← hll]; simp; omega
          refine TL.p (EvP.move rfl) ?_
          refine TL.p (EvP.lenS Tryd.runUnderlying35 rfl) ?_
          refine TL.p (EvP.move rfl) ?_
          refine TL.p (EvP.lenS Tryd.runUnderlying35 rfl) ?_
          refine TL.p (EvP.isF (EvP.ne rfl rfl) (by rw [hll]; simp)) ?_
          refine TL.nil ?_
          refine TX.thenN rfl rfl ?_
          refine TC.cfalse rfl ?_
          refine TC.skip ?_
          refine TX.thenN rfl rfl ?_
          refine TC.seq ?_
          refine TC.seq ?_
          refine TC.region ?_
          refine TL.p (EvP.move rfl) ?_
          refine TL.p (EvP.lenS Tryd.runUnderlying35 rfl) ?_
          refine TL.p (EvP.move rfl) ?_
          refine TL.nil ?_
          refine TX.thenN rfl rfl ?_
          refine TC.block ?_
          refine TC.loop (ι := Nat) (fun i => [(8, .slice aE (s.1.ds.map (·.1)).length cE), (88, .slice aW l.length cW), (89, .int .i64 l.length), (90, .int .i64 i)]) (fun i => Cw :: Ce :: Cr :: D :: D8 :: E8 :: [(b1, .cells [.slice ab ops.length cb, .slice aL live.length cL, .slice aT traps.length cT, .slice aF dvs.length cF].toArray 38 (0, 0))] :: R) (fun i => i ≤ l.length) (fun i => l.length - i) (0) (Nat.zero_le _) ⟨rfl, rfl, rfl, rfl, trivial⟩ (by repeat (first | exact Le.refl _ | exact Le.nil _ | refine Le.hit ?_ | refine Le.hit1 ?_ | refine Le.hit2 ?_ | refine Le.hit3 ?_ | refine Le.hit4 ?_ | refine Le.hit5 ?_ | refine Le.hit6 ?_ | refine Le.hit7 ?_ | refine Le.hit8 ?_ | refine Le.hit9 ?_ | refine Le.hit10 ?_ | refine Le.skip ?_)) ?_
          rintro i hi
          change TC _ _ [(8, .slice aE (s.1.ds.map (·.1)).length cE), (88, .slice aW l.length cW), (89, .int .i64 l.length), (90, .int .i64 i)] (Cw :: Ce :: Cr :: D :: D8 :: E8 :: [(b1, .cells [.slice ab ops.length cb, .slice aL live.length cL, .slice aT traps.length cT, .slice aF dvs.length cF].toArray 38 (0, 0))] :: R) _
          refine TC.seq ?_
          refine TC.region ?_
          refine TL.dec (EvP.lt rfl rfl) (fun h91 => ?_) (fun h91 => ?_)
          · refine TL.nil ?_
            refine TX.thenN rfl rfl ?_
            refine TC.seq ?_
            refine TC.ctrue rfl ?_
            refine TC.skip ?_
            refine TX.thenN rfl rfl ?_
            refine TC.seq ?_
            refine TC.block ?_
            refine TC.seq ?_
            refine TC.region ?_
            have hlt : i < l.length := by omega
            obtain ⟨q, hx⟩ : ∃ q, l[i]? = some q := ⟨_, List.getElem?_eq_getElem hlt⟩
            refine TL.elem (hv.el encI_ok (j := i) (x := q) hx (by simp)) Tryd.runUnderlying35 Tryd.sizeOf2 rfl rfl (fun bE oE lE _ _ hE hcE => ?_)
            refine TL.r (EvR.load rfl Tryd.isAgg2 hE hcE.1) ?_
            refine TL.p (EvP.assign rfl) ?_
            refine TL.nil ?_
            refine TX.thenN rfl rfl ?_
            refine TC.seq ?_
            refine TC.region ?_
            refine TL.p (EvP.move rfl) ?_
            refine TL.p (EvP.move rfl) ?_
            refine TL.callA rfl rfl Tryd.call22 (fun w hs => has_yes ((hiff q).2 (List.mem_of_getElem? hx)) (hve.els encI_ok (by simp)) (by simp; omega) hs) ?_
            rintro _ rfl
            refine TL.p (EvP.not rfl) ?_
            refine TL.nil ?_
            refine TX.thenN rfl rfl ?_
            refine TC.cfalse rfl ?_
            refine TC.skip ?_
            refine TX.blkN ?_
            refine TX.thenN rfl rfl ?_
            refine TC.region ?_
            refine TL.p (EvP.add rfl rfl (by omega)) ?_
            refine TL.p (EvP.move rfl) ?_
            refine TL.nil ?_
            refine TX.back (i + 1) (by omega) (by omega) ⟨rfl, rfl, rfl, rfl, trivial⟩ (by repeat (first | exact Le.refl _ | exact Le.nil _ | refine Le.hit ?_ | refine Le.hit1 ?_ | refine Le.hit2 ?_ | refine Le.hit3 ?_ | refine Le.hit4 ?_ | refine Le.hit5 ?_ | refine Le.hit6 ?_ | refine Le.hit7 ?_ | refine Le.hit8 ?_ | refine Le.hit9 ?_ | refine Le.hit10 ?_ | refine Le.skip ?_))
          · refine TL.nil ?_
            refine TX.thenN rfl rfl ?_
            refine TC.seq ?_
            refine TC.cfalse rfl ?_
            refine TC.exit ?_
            refine TX.thenE ?_
            refine TX.thenE ?_
            refine TX.blkH ?_
            refine TX.thenN rfl rfl ?_
            refine TC.seq ?_
            refine TC.region ?_
            refine TL.callA rfl rfl Tryd.call17 (fun w hs => awake_spec hT hs) ?_
            rintro _ rfl
            refine TL.p (EvP.assign rfl) ?_
            refine TL.nil ?_
            refine TX.thenN rfl rfl ?_
            refine TC.ret ?_
            refine TX.done rfl (Res.one rfl rfl) (fun w hs => Post0.mk hs ?_ (by repeat (first | exact Le.refl _ | exact Le.nil _ | refine Le.hit ?_ | refine Le.hit1 ?_ | refine Le.hit2 ?_ | refine Le.hit3 ?_ | refine Le.hit4 ?_ | refine Le.hit5 ?_ | refine Le.hit6 ?_ | refine Le.hit7 ?_ | refine Le.hit8 ?_ | refine Le.hit9 ?_ | refine Le.hit10 ?_ | refine Le.skip ?_)))
            rfl
  · refine TL.callA rfl rfl Tryd.call18 (fun w hs => spread_bad hT hG heL.came heT.came hF.came hzl hzt (by omega) hdz hwr hs) ?_
    rintro _ rfl
    refine TL.p (EvP.move rfl) ?_
    refine TL.p (EvP.extract rfl rfl) ?_
    refine TL.p (EvP.extract rfl rfl) ?_
    refine TL.p (EvP.extract rfl rfl) ?_
    refine TL.p (EvP.assign rfl) ?_
    refine TL.p (EvP.assign rfl) ?_
    refine TL.p (EvP.assign rfl) ?_
    refine TL.nil ?_
    refine TX.thenN rfl rfl ?_
    refine TC.seq ?_
    refine TC.seq ?_
    refine TC.region ?_
    refine TL.p (EvP.move rfl) ?_
    refine TL.p (EvP.isT (EvP.ne rfl rfl) hwr) ?_
    refine TL.nil ?_
    refine TX.thenN rfl rfl ?_
    refine TC.ctrue rfl ?_
    refine TC.seq ?_
    refine TC.region ?_
    refine TL.callA rfl rfl Tryd.call17 (fun w hs => awake_spec hT hs) ?_
    rintro _ rfl
    refine TL.p (EvP.assign rfl) ?_
    refine TL.nil ?_
    refine TX.thenN rfl rfl ?_
    refine TC.ret ?_
    refine TX.thenR ?_
    refine TX.done rfl (Res.one rfl rfl) (fun w hs => Post0.mk hs ?_ (by repeat (first | exact Le.refl _ | exact Le.nil _ | refine Le.hit ?_ | refine Le.hit1 ?_ | refine Le.hit2 ?_ | refine Le.hit3 ?_ | refine Le.hit4 ?_ | refine Le.hit5 ?_ | refine Le.hit6 ?_ | refine Le.hit7 ?_ | refine Le.hit8 ?_ | refine Le.hit9 ?_ | refine Le.hit10 ?_ | refine Le.skip ?_)))
    rfl
end Go.Proofs.YtdbpandamnkpdaaDoor
