/-
  The walk of SignalTraps.
-/
import Derived.Test.YtdbpandamnkpdaaDoorTa
set_option linter.unusedSimpArgs false
set_option linter.unusedVariables false
set_option maxRecDepth 100000
namespace Go.Proofs.YtdbpandamnkpdaaDoor
open Go Go.RowKit Go.Lib

theorem Rel.came {w0 : World} {H : List Chunk} {dvs : List Dv} {ds : List Dth} (h : Rel (fun w => w = w0) dvs ds) : Rel (fun w => St w0 w H) dvs ds :=
  ⟨h.1, fun i x d hx hd => let ⟨h1, h2⟩ := h.2 i x d hx hd; ⟨h1, h2.came⟩⟩
/-- An element's place, to be written in part. -/
theorem TL.elemF {α : Type} {enc : α → List Value} {n : Nat} {T : TypeId} {c : Cx} {ops Q d pos aft rest} {L : Fl} {H : List Chunk} {ty : TypeId} {x i : Operand} {t e : TypeId} {v : Value} {xs : List α} {C : Chunk} {j : Nat} {q : IntKind} {y0 : α} (hv : Sl T n enc v xs C) (hE : Enc n enc) (hx0 : xs[j]? = some y0) (hu : ∀ w, (underlying t).run c.P w = .ok (.slice e) w)
    (hz : ∀ w, (sizeOf e).run c.P w = .ok n w) (hx : ev L x = some v) (hi : ev L i = some (.int q j))
    (kk : ∀ b off l, C = [(b, .cells l.toArray T (0, 0))] → cellsAt l off (enc y0) → (∀ y : α, ∃ l', SetLs l off (enc y) l' ∧ Sl T n enc v (xs.set j y) [(b, .cells l'.toArray T (0, 0))]) → TL c ops Q rest ((d, .pointer (some ⟨b, off, none⟩)) :: L) H) (hd : Nat.blt d c.N = true := by rfl) :
    TL c ops Q (⟨some d, .indexAddr t x i, ty, pos, aft, none⟩ :: rest) L H := by
  have hj : j < xs.length := (List.getElem?_eq_some_iff.1 hx0).1
  rcases hv with ⟨rfl, rfl, rfl⟩ | ⟨b, off, cap, pre, spare, rfl, rfl, rfl, h1, h2⟩
  · simp at hj
  · refine TL.p (EvP.ix (j := (j : Int)) hu hz hx hi ⟨by omega, by omega⟩) (kk _ _ _ rfl ?_ fun y => ?_) hd
    · refine cellsAt_of fun i hi => ?_
      have hi' : i < n := by rw [(hE y0).1] at hi; exact hi
      rw [show (j : Int).toNat = j from rfl, Nat.add_assoc, List.getElem?_append_right (by omega), Nat.add_sub_cancel_left]
      have hlen := rowOf_len hE xs
      have hlt : j * n + i < (rowOf enc xs).length := by
        rw [hlen]
        have : (j + 1) * n ≤ xs.length * n := Nat.mul_le_mul_right _ hj
        rw [Nat.succ_mul] at this; omega
      rw [List.getElem?_append_left hlt, rowOf_get hE hx0 i hi']
    · obtain ⟨A, ws, B, e1, e2, e3, e4⟩ := rowOf_set hE (xs := xs) (j := j) y hj
      refine ⟨pre ++ (rowOf enc (xs.set j y) ++ spare), ?_, .inr ⟨b, pre.length, cap, pre, spare, by rw [List.length_set], rfl, rfl, by rw [List.length_set]; exact h1, by rw [List.length_set]; exact h2⟩⟩
      rw [e1, e4]
      have := SetLs.mid (A := pre ++ A) (vs := enc y) (ws := ws) (B := B ++ spare) (by rw [(hE y).1, e3])
      rw [List.length_append, e2] at this
      simpa [List.append_assoc] using this
theorem set_second {l l' : List Value} {off : Nat} {x : Dv} {a : Option Addr} {n c : Nat} (h : cellsAt l off x.enc) (hs : SetLs l off (Dv.enc ⟨x.p, a, n, c⟩) l') : SetL l (off + 1) (.slice a n c) l' := by
  cases hs with
  | cons h1 h2 =>
    have h3 : l.set off (.int .i64 x.p) = l := by
      have h4 : l[off]? = some (.int .i64 x.p) := h.1
      obtain ⟨hlt, he⟩ := List.getElem?_eq_some_iff.1 h4
      rw [← he]; exact List.set_getElem_self hlt
    have h5 := (SetL.eq h1).1
    rw [h3] at h5
    subst h5
    cases h2 with
    | cons h6 h7 =>
      cases h7
      exact h6
theorem Rel.set {E CN : Chunk} {dvs : List Dv} {ds : List Dth} (h : Rel (HoldsC E) dvs ds) {i : Nat} {x : Dv} (hx : dvs[i]? = some x) {a : Option Addr} {c : Nat} {y : Cl} (hN : Sl 57 3 Cl.enc (.slice a 1 c) [y] CN) :
    Rel (HoldsC (CN ++ E)) (dvs.set i ⟨x.p, a, 1, c⟩) (ds.set i (x.p, [y])) := by
  refine ⟨by simp [h.1], fun j z d hz hd => ?_⟩
  by_cases hij : i = j
  · subst hij
    have hi := (List.getElem?_eq_some_iff.1 hx).1
    rw [List.getElem?_set_self hi] at hz
    rw [List.getElem?_set_self (by rw [← h.1]; exact hi)] at hd
    simp only [Option.some.injEq] at hz hd
    subst hz hd
    exact ⟨rfl, (hN.elsC encC_ok).more fun x hx => List.mem_append.2 (.inl hx)⟩
  · rw [List.getElem?_set_ne hij] at hz hd
    obtain ⟨h1, h2⟩ := h.2 j z d hz hd
    exact ⟨h1, h2.more fun x hx => List.mem_append.2 (.inr hx)⟩
theorem nrm_step {ds : List Dth} {i : Nat} {p : Int} {y : List Cl} (h : ∀ (j : Nat) (d : Dth), j < i → ds[j]? = some d → d.2 = y) : ∀ (j : Nat) (d : Dth), j < i + 1 → (ds.set i (p, y))[j]? = some d → d.2 = y := by
  intro j d hj hd
  by_cases hij : i = j
  · subst hij
    have hi : i < ds.length := by
      have := (List.getElem?_eq_some_iff.1 hd).1
      simpa using this
    rw [List.getElem?_set_self hi] at hd
    simp only [Option.some.injEq] at hd
    rw [← hd]
  · rw [List.getElem?_set_ne hij] at hd
    exact h j d (by omega) hd
theorem len_step {ds : List Dth} {i : Nat} {p : Int} {y : Cl} (h : ∀ d ∈ ds, d.2.length ≤ 4398046511000) : ∀ d ∈ ds.set i (p, [y]), d.2.length ≤ 4398046511000 := by
  intro d hd
  rcases List.mem_or_eq_of_mem_set hd with hd | rfl
  · exact h d hd
  · simp
theorem nrm_all {ds : List Dth} {i : Nat} (hi : ds.length ≤ i) (h : ∀ (j : Nat) (d : Dth), j < i → ds[j]? = some d → d.2 = [atomC normalS]) : ∀ d ∈ ds, isA d.2 normalS = true := by
  intro d hd
  obtain ⟨j, hj⟩ := List.getElem?_of_mem hd
  have hlt := (List.getElem?_eq_some_iff.1 hj).1
  rw [h j d (by omega) hj]
  simp [isA]
/-- Nobody else ends. -/
theorem bstep_same {live traps : List Int} {p : Int} {r : List Cl} {s : Sp} {b : Bond} (h : (∀ q ∈ live, q ∈ traps) ∨ isA r normalS = true) (ha : ∀ q ∈ s.al, q ∈ live) : (bstep traps p r s b).ds = s.ds ∧ (bstep traps p r s b).al = s.al := by
  unfold bstep
  split
  · exact ⟨rfl, rfl⟩
  · rename_i hw
    split
    · exact ⟨rfl, rfl⟩
    · split
      · exact ⟨rfl, rfl⟩
      · rename_i ht
        split
        · exact ⟨rfl, rfl⟩
        · rename_i hn
          rcases h with h | h
          · exact (ht (h _ (ha _ (by simpa using hw)))).elim
          · exact (hn h).elim
theorem bfold_same {live traps : List Int} {p : Int} {r : List Cl} (h : (∀ q ∈ live, q ∈ traps) ∨ isA r normalS = true) : ∀ {l : List Bond} {s : Sp}, (∀ q ∈ s.al, q ∈ live) → (l.foldl (bstep traps p r) s).ds = s.ds ∧ (l.foldl (bstep traps p r) s).al = s.al
  | [], s, _ => ⟨rfl, rfl⟩
  | b :: l, s, ha => by
    have h1 := bstep_same (b := b) (p := p) h ha
    have h2 := bfold_same (l := l) (p := p) h (s := bstep traps p r s b) (by rw [h1.2]; exact ha)
    rw [List.foldl_cons]
    exact ⟨h2.1.trans h1.1, h2.2.trans h1.2⟩
theorem spN_same {live traps : List Int} {ds : List Dth} {bs : List Bond} (h : ∀ d ∈ ds, (∀ q ∈ live, q ∈ traps) ∨ isA d.2 normalS = true) (k : Nat) : (spN traps (sp0 live ds, bs) k).1.ds = ds := by
  suffices hh : (spN traps (sp0 live ds, bs) k).1.ds = ds ∧ ∀ q ∈ (spN traps (sp0 live ds, bs) k).1.al, q ∈ live from hh.1
  induction k with
  | zero => exact ⟨rfl, fun q hq => (mem_dieL.1 hq).1⟩
  | succ k ih =>
    show (kstep traps (spN traps (sp0 live ds, bs) k) k).1.ds = ds ∧ ∀ q ∈ (kstep traps (spN traps (sp0 live ds, bs) k) k).1.al, q ∈ live
    cases hk : (spN traps (sp0 live ds, bs) k).1.ds[k]? with
    | none => unfold kstep; rw [hk]; exact ih
    | some d =>
      rw [kstep_at hk]
      have hd : d ∈ ds := by rw [← ih.1]; exact List.mem_of_getElem? hk
      have h2 := bfold_same (p := d.1) (h d hd) (l := (endT (spN traps (sp0 live ds, bs) k).2 d.1).take (endT (spN traps (sp0 live ds, bs) k).2 d.1).length) ih.2
      exact ⟨h2.1.trans ih.1, fun q hq => ih.2 q (by rw [← h2.2]; exact hq)⟩

theorem traps_walk {w0 w : World} {R : List Chunk} {vb vl vt vf : Value} {ops : List LOp} {live traps : List Int} {dvs : List Dv} {ds : List Dth} (hT : Tabs w0) (heO : Els (fun w => w = w0) vb 4 LOp.enc 82 ops) (heL : Els (fun w => w = w0) vl 1 (one (Value.int .i64)) 2 live) (heT : Els (fun w => w = w0) vt 1 (one (Value.int .i64)) 2 traps) (heF : Els (fun w => w = w0) vf 2 Dv.enc 48 dvs) (hrelF : Rel (fun w => w = w0) dvs ds) (hzo : ops.length < 4611686018427387904) (hzl : live.length ≤ 17592186044416) (hzt : traps.length ≤ 17592186044416) (hzd : dvs.length ≤ 4398046511000) (hdz : ∀ d ∈ ds, d.2.length ≤ 4398046511000) (normal : Bool) (hst : St w0 w R) : Calls Tryd.prog 6 #[.agg #[vb, vl, vt, vf], .bool normal] w (Post0 w0 R fun u => u = .bool true) := by
  obtain ⟨⟨ab, cb, rfl⟩, _⟩ := id heO
  obtain ⟨⟨aL, cL, rfl⟩, _⟩ := id heL
  obtain ⟨⟨aT, cT, rfl⟩, _⟩ := id heT
  obtain ⟨⟨aF, cF, rfl⟩, _⟩ := id heF
  refine calls_of (args := [_, _]) Tryd.func6 rfl Tryd.ntmps6 hst ?_
  refine TC.seq ?_
  refine TC.region ?_
  refine TL.box rfl rfl (fun b2 => ?_)
  refine TL.p (EvP.assign rfl) ?_
  refine TL.nil ?_
  refine TX.thenN rfl rfl ?_
  refine TC.seq ?_
  refine TC.region ?_
  refine TL.p (EvP.fa (e := 0) rfl Tryd.runUnderlying38 rfl Tryd.sizeOf34 rfl) ?_
  refine TL.r (EvR.load rfl Tryd.isAgg34 (AtB.own (by repeat (first | exact Has.hd | refine Has.tlb ?_ | refine Has.tlc ?_))) (by rfl)) ?_
  refine TL.callD rfl rfl Tryd.call19 (fun w hs => made_spec heO hzo hs) ?_
  rintro _ C Cr Dr ⟨g, rr, rfl, hG, hR⟩
  refine TL.p (EvP.move rfl) ?_
  refine TL.p (EvP.extract rfl rfl) ?_
  refine TL.p (EvP.extract rfl rfl) ?_
  refine TL.p (EvP.assign rfl) ?_
  refine TL.p (EvP.assign rfl) ?_
  refine TL.nil ?_
  refine TX.thenN rfl rfl ?_
  refine TC.seq ?_
  refine TC.seq ?_
  refine TC.region ?_
  refine TL.p (EvP.move rfl) ?_
  refine TL.p (EvP.eqPtrNil Tryd.runUnderlying43 rfl rfl) ?_
  refine TL.nil ?_
  refine TX.thenN rfl rfl ?_
  refine TC.cfalse rfl ?_
  refine TC.skip ?_
  refine TX.thenN rfl rfl ?_
  refine TC.seq ?_
  refine TC.region ?_
  refine TL.p (EvP.fa (e := 3) rfl Tryd.runUnderlying38 rfl Tryd.sizeOf36 rfl) ?_
  refine TL.r (EvR.load rfl Tryd.isAgg36 (AtB.own (by repeat (first | exact Has.hd | refine Has.tlb ?_ | refine Has.tlc ?_))) (by rfl)) ?_
  refine TL.callC rfl rfl Tryd.call23 (fun w hs => copied_spec heF.came hrelF.came hzd hdz hs) ?_
  rintro _ D E ⟨dvs2, hD, hRM⟩
  have hRl := hRM.rel
  have hlen2 := hRM.1
  have hlenF := hrelF.1
  obtain ⟨a3, c3, rfl, hc3, hsp3⟩ := hD.len
  refine TL.p (EvP.assign rfl) ?_
  refine TL.nil ?_
  refine TX.thenN rfl rfl ?_
  refine TC.seq ?_
  refine TC.region ?_
  refine TL.p (EvP.fa (e := 1) rfl Tryd.runUnderlying38 rfl Tryd.sizeOf35 rfl) ?_
  refine TL.r (EvR.load rfl Tryd.isAgg35 (AtB.own (by repeat (first | exact Has.hd | refine Has.tlb ?_ | refine Has.tlc ?_))) (by rfl)) ?_
  refine TL.p (EvP.assign rfl) ?_
  refine TL.nil ?_
  refine TX.thenN rfl rfl ?_
  refine TC.seq ?_
  refine TC.seq ?_
  refine TC.region ?_
  refine TL.p (EvP.move rfl) ?_
  refine TL.nil ?_
  refine TX.thenN rfl rfl ?_
  refine TC.cond rfl (fun h26 => ?_) (fun h26 => ?_)
  · refine TC.seq ?_
    refine TC.region ?_
    refine TL.p (EvP.fa (e := 2) rfl Tryd.runUnderlying38 rfl Tryd.sizeOf35 rfl) ?_
    refine TL.r (EvR.load rfl Tryd.isAgg35 (AtB.own (by repeat (first | exact Has.hd | refine Has.tlb ?_ | refine Has.tlc ?_))) (by rfl)) ?_
    refine TL.p (EvP.assign rfl) ?_
    refine TL.nil ?_
    refine TX.thenN rfl rfl ?_
    refine TC.seq ?_
    refine TC.region ?_
    refine TL.p (EvP.move rfl) ?_
    refine TL.p (EvP.lenS Tryd.runUnderlying36 rfl) ?_
    refine TL.p (EvP.move rfl) ?_
    refine TL.nil ?_
    refine TX.thenN rfl rfl ?_
    refine TC.block ?_
    refine TC.loop (ι := Nat × List Dv × List Dth × Chunk × Chunk) (fun (i, dvs3, ds3, D, E) => [(2, .pointer (some ⟨b2, 0, none⟩)), (5, .pointer (some ⟨g, 0, none⟩)), (8, .slice aT traps.length cT), (7, .slice a3 dvs2.length c3), (29, .slice a3 dvs2.length c3), (30, .int .i64 dvs2.length), (31, .int .i64 i), (6, .pointer (some ⟨rr, 0, none⟩))]) (fun (i, dvs3, ds3, D, E) => D :: E :: C :: Cr :: Dr :: [(b2, .cells [.slice ab ops.length cb, .slice aL live.length cL, .slice aT traps.length cT, .slice aF dvs.length cF].toArray 38 (0, 0))] :: R) (fun (i, dvs3, ds3, D, E) => i ≤ dvs2.length ∧ dvs3.length = dvs2.length ∧ Sl 48 2 Dv.enc (.slice a3 dvs2.length c3) dvs3 D ∧ Rel (HoldsC E) dvs3 ds3 ∧ (∀ (j : Nat) (d : Dth), j < i → ds3[j]? = some d → d.2 = [atomC normalS]) ∧ ∀ d ∈ ds3, d.2.length ≤ 4398046511000) (fun (i, dvs3, ds3, D, E) => dvs2.length - i) ((0, dvs2, ds, D, E)) (⟨Nat.zero_le _, rfl, hD, hRl, (fun j d h => by omega), hdz⟩) ⟨rfl, rfl, rfl, rfl, rfl, rfl, rfl, rfl, trivial⟩ (by repeat (first | exact Le.refl _ | exact Le.nil _ | refine Le.hit ?_ | refine Le.hit1 ?_ | refine Le.hit2 ?_ | refine Le.hit3 ?_ | refine Le.hit4 ?_ | refine Le.hit5 ?_ | refine Le.hit6 ?_ | refine Le.hit7 ?_ | refine Le.hit8 ?_ | refine Le.hit9 ?_ | refine Le.hit10 ?_ | refine Le.skip ?_)) ?_
    rintro ⟨i, dvs3, ds3, D, E⟩ ⟨hi, hl3, hD, hR3, hn3, hdz3⟩
    change TC _ _ [(2, .pointer (some ⟨b2, 0, none⟩)), (5, .pointer (some ⟨g, 0, none⟩)), (8, .slice aT traps.length cT), (7, .slice a3 dvs2.length c3), (29, .slice a3 dvs2.length c3), (30, .int .i64 dvs2.length), (31, .int .i64 i), (6, .pointer (some ⟨rr, 0, none⟩))] (D :: E :: C :: Cr :: Dr :: [(b2, .cells [.slice ab ops.length cb, .slice aL live.length cL, .slice aT traps.length cT, .slice aF dvs.length cF].toArray 38 (0, 0))] :: R) _
    refine TC.seq ?_
    refine TC.region ?_
    refine TL.dec (EvP.lt rfl rfl) (fun h32 => ?_) (fun h32 => ?_)
    · refine TL.nil ?_
      refine TX.thenN rfl rfl ?_
      refine TC.seq ?_
      refine TC.ctrue rfl ?_
      refine TC.skip ?_
      refine TX.thenN rfl rfl ?_
      refine TC.seq ?_
      refine TC.block ?_
      refine TC.seq ?_
      refine TC.region ?_
      refine TL.p (EvP.move rfl) ?_
      refine TL.p (EvP.assign rfl) ?_
      refine TL.nil ?_
      refine TX.thenN rfl rfl ?_
      refine TC.region ?_
      refine TL.p (EvP.move rfl) ?_
      refine TL.p (EvP.move rfl) ?_
      refine TL.callB rfl rfl Tryd.call24 (fun w hs => latom_spec normalS hs) ?_
      rintro _ CN hN
      obtain ⟨aN, cN, rfl, _, _⟩ := id hN.len
      have hlt : i < dvs3.length := by omega
      obtain ⟨x, hx⟩ : ∃ x, dvs3[i]? = some x := ⟨_, List.getElem?_eq_getElem hlt⟩
      refine TL.elemF hD encD_ok hx Tryd.runUnderlying36 Tryd.sizeOf48 rfl rfl (fun bE oE lE hCE hcE hWE => ?_)
      subst hCE
      obtain ⟨l2, hS2, hD2⟩ := hWE ⟨x.p, aN, 1, cN⟩
      have hset := set_second hcE hS2
      refine TL.p (EvP.fa rfl Tryd.runUnderlying48 rfl Tryd.sizeOf22 rfl) ?_
      refine TL.u (EvU.store1 rfl rfl Tryd.sizeOf22 rfl (by repeat (first | exact Has.hd | refine Has.tlb ?_ | refine Has.tlc ?_)) hset (by repeat (first | exact Upd.hd | apply Upd.tlb | apply Upd.tlc))) ?_
      refine TL.nil ?_
      refine TX.blkN ?_
      refine TX.thenN rfl rfl ?_
      refine TC.region ?_
      refine TL.p (EvP.add rfl rfl (by omega)) ?_
      refine TL.p (EvP.move rfl) ?_
      refine TL.nil ?_
      refine TX.le (Le.hit (Le.hit1 (Le.refl _))) ?_
      refine TX.le (Le.join (Le.refl _)) ?_
      refine TX.back ((i + 1, dvs3.set i ⟨x.p, aN, 1, cN⟩, ds3.set i (x.p, [atomC normalS]), [(bE, .cells l2.toArray 48 (0, 0))], CN ++ E)) (⟨by omega, by rw [List.length_set]; exact hl3, hD2, hR3.set hx hN, nrm_step hn3, len_step hdz3⟩) (by simp only; omega) ⟨rfl, rfl, rfl, rfl, rfl, rfl, rfl, rfl, trivial⟩ (by repeat (first | exact Le.refl _ | exact Le.nil _ | refine Le.hit ?_ | refine Le.hit1 ?_ | refine Le.hit2 ?_ | refine Le.hit3 ?_ | refine Le.hit4 ?_ | refine Le.hit5 ?_ | refine Le.hit6 ?_ | refine Le.hit7 ?_ | refine Le.hit8 ?_ | refine Le.hit9 ?_ | refine Le.hit10 ?_ | refine Le.skip ?_))
    · refine TL.nil ?_
      refine TX.thenN rfl rfl ?_
      refine TC.seq ?_
      refine TC.cfalse rfl ?_
      refine TC.exit ?_
      refine TX.thenE ?_
      refine TX.thenE ?_
      refine TX.blkH ?_
      refine TX.thenN rfl rfl ?_
      refine TC.seq ?_
      refine TC.region ?_
      refine TL.p (EvP.move rfl) ?_
      refine TL.p (EvP.fa (e := 1) rfl Tryd.runUnderlying38 rfl Tryd.sizeOf35 rfl) ?_
      refine TL.r (EvR.load rfl Tryd.isAgg35 (AtB.own (by repeat (first | exact Has.hd | refine Has.tlb ?_ | refine Has.tlc ?_))) (by rfl)) ?_
      refine TL.p (EvP.move rfl) ?_
      refine TL.p (EvP.move rfl) ?_
      have hn4 : ∀ d ∈ ds3, isA d.2 normalS = true := nrm_all (by rw [← hR3.1, hl3]; omega) hn3
      have hl4 := hR3.1
      refine TL.le (Le.hit2 (Le.refl _)) ?_
      by_cases hwr : wrongM live traps ds3 = 0
      · refine TL.call rfl rfl Tryd.call18 (fun w hs => spread_ok (dvs := dvs3) (ds := ds3) hT hG heL.came heT.came ⟨a3, c3, by rw [hl3], by omega, fun _ => hsp3, hD.els encD_ok (by simp), hR3.inC (by simp)⟩ hzl hzt (by omega) hdz3 hwr hs) ?_
        rintro _ _ ⟨Cg, D8, E8, Dt, Et, dv8, tv8, dvs8, tvs8, s, rfl, rfl, ⟨K, hK, _⟩, _, _, hdv, hdr, _, _⟩
        have hsame : s.1.ds = ds3 := by rw [hK]; exact spN_same (fun d hd => .inr (hn4 d hd)) K
        rw [hsame] at hdr
        refine TL.p (EvP.move rfl) ?_
        refine TL.p (EvP.extract rfl rfl) ?_
        refine TL.p (EvP.extract rfl rfl) ?_
        refine TL.p (EvP.extract rfl rfl) ?_
        refine TL.p (EvP.assign rfl) ?_
        refine TL.p (EvP.assign rfl) ?_
        refine TL.p (EvP.assign rfl) ?_
        refine TL.nil ?_
        refine TX.thenN rfl rfl ?_
        refine TC.seq ?_
        refine TC.seq ?_
        refine TC.region ?_
        refine TL.p (EvP.move rfl) ?_
        refine TL.p (EvP.isF (EvP.ne rfl rfl) (by decide)) ?_
        refine TL.nil ?_
        refine TX.thenN rfl rfl ?_
        refine TC.cfalse rfl ?_
        refine TC.skip ?_
        refine TX.thenN rfl rfl ?_
        refine TC.seq ?_
        refine TC.region ?_
        refine TL.p (EvP.move rfl) ?_
        refine TL.p (EvP.move rfl) ?_
        refine TL.callA rfl rfl Tryd.call25 (fun w hs => deaths_spec (hdv.els encD_ok (by simp)) (hdr.inC (by simp)) (hD.els encD_ok (by simp)) (hR3.inC (by simp)) (by have := hR3.1; omega) hdz3 hs) ?_
        rintro _ rfl
        refine TL.p (EvP.move rfl) ?_
        refine TL.gY rfl rfl rfl ?_
        refine TL.callA rfl rfl Tryd.call17 (fun w hs => awake_spec hT hs) ?_
        rintro _ rfl
        refine TL.p (EvP.pickT rfl rfl) ?_
        refine TL.p (EvP.assign rfl) ?_
        refine TL.nil ?_
        refine TX.thenN rfl rfl ?_
        refine TC.ret ?_
        refine TX.done rfl (Res.one rfl rfl) (fun w hs => Post0.mk hs ?_ (by repeat (first | exact Le.refl _ | exact Le.nil _ | refine Le.hit ?_ | refine Le.hit1 ?_ | refine Le.hit2 ?_ | refine Le.hit3 ?_ | refine Le.hit4 ?_ | refine Le.hit5 ?_ | refine Le.hit6 ?_ | refine Le.hit7 ?_ | refine Le.hit8 ?_ | refine Le.hit9 ?_ | refine Le.hit10 ?_ | refine Le.skip ?_)))
        rfl
      · refine TL.callA rfl rfl Tryd.call18 (fun w hs => spread_bad (dvs := dvs3) (ds := ds3) hT hG heL.came heT.came ⟨a3, c3, by rw [hl3], by omega, fun _ => hsp3, hD.els encD_ok (by simp), hR3.inC (by simp)⟩ hzl hzt (by omega) hdz3 hwr hs) ?_
        rintro _ rfl
        refine TL.p (EvP.move rfl) ?_
        refine TL.p (EvP.extract rfl rfl) ?_
        refine TL.p (EvP.extract rfl rfl) ?_
        refine TL.p (EvP.extract rfl rfl) ?_
        refine TL.p (EvP.assign rfl) ?_
        refine TL.p (EvP.assign rfl) ?_
        refine TL.p (EvP.assign rfl) ?_
        refine TL.nil ?_
        refine TX.thenN rfl rfl ?_
        refine TC.seq ?_
        refine TC.seq ?_
        refine TC.region ?_
        refine TL.p (EvP.move rfl) ?_
        refine TL.p (EvP.isT (EvP.ne rfl rfl) hwr) ?_
        refine TL.nil ?_
        refine TX.thenN rfl rfl ?_
        refine TC.ctrue rfl ?_
        refine TC.seq ?_
        refine TC.region ?_
        refine TL.p (EvP.move rfl) ?_
        refine TL.p (EvP.lenS Tryd.runUnderlying36 rfl) ?_
        refine TL.p (EvP.isT (EvP.eq rfl rfl) rfl) ?_
        refine TL.p (EvP.move rfl) ?_
        refine TL.gY rfl rfl rfl ?_
        refine TL.callA rfl rfl Tryd.call17 (fun w hs => awake_spec hT hs) ?_
        rintro _ rfl
        refine TL.p (EvP.pickT rfl rfl) ?_
        refine TL.p (EvP.assign rfl) ?_
        refine TL.nil ?_
        refine TX.thenN rfl rfl ?_
        refine TC.ret ?_
        refine TX.thenR ?_
        refine TX.done rfl (Res.one rfl rfl) (fun w hs => Post0.mk hs ?_ (by repeat (first | exact Le.refl _ | exact Le.nil _ | refine Le.hit ?_ | refine Le.hit1 ?_ | refine Le.hit2 ?_ | refine Le.hit3 ?_ | refine Le.hit4 ?_ | refine Le.hit5 ?_ | refine Le.hit6 ?_ | refine Le.hit7 ?_ | refine Le.hit8 ?_ | refine Le.hit9 ?_ | refine Le.hit10 ?_ | refine Le.skip ?_)))
        rfl
  · refine TC.skip ?_
    refine TX.thenN rfl rfl ?_
    refine TC.seq ?_
    refine TC.region ?_
    refine TL.p (EvP.move rfl) ?_
    refine TL.p (EvP.fa (e := 1) rfl Tryd.runUnderlying38 rfl Tryd.sizeOf35 rfl) ?_
    refine TL.r (EvR.load rfl Tryd.isAgg35 (AtB.own (by repeat (first | exact Has.hd | refine Has.tlb ?_ | refine Has.tlc ?_))) (by rfl)) ?_
    refine TL.p (EvP.move rfl) ?_
    refine TL.p (EvP.move rfl) ?_
    refine TL.le (Le.hit2 (Le.refl _)) ?_
    by_cases hwr : wrongM live live ds = 0
    · refine TL.call rfl rfl Tryd.call18 (fun w hs => spread_ok (dvs := dvs2) (ds := ds) hT hG heL.came heL.came ⟨a3, c3, rfl, by omega, fun _ => hsp3, hD.els encD_ok (by simp), hRl.inC (by simp)⟩ hzl hzl (by omega) hdz hwr hs) ?_
      rintro _ _ ⟨Cg, D8, E8, Dt, Et, dv8, tv8, dvs8, tvs8, s, rfl, rfl, ⟨K, hK, _⟩, _, _, hdv, hdr, _, _⟩
      have hsame : s.1.ds = ds := by rw [hK]; exact spN_same (fun d hd => .inl (fun q hq => hq)) K
      rw [hsame] at hdr
      refine TL.p (EvP.move rfl) ?_
      refine TL.p (EvP.extract rfl rfl) ?_
      refine TL.p (EvP.extract rfl rfl) ?_
      refine TL.p (EvP.extract rfl rfl) ?_
      refine TL.p (EvP.assign rfl) ?_
      refine TL.p (EvP.assign rfl) ?_
      refine TL.p (EvP.assign rfl) ?_
      refine TL.nil ?_
      refine TX.thenN rfl rfl ?_
      refine TC.seq ?_
      refine TC.seq ?_
      refine TC.region ?_
      refine TL.p (EvP.move rfl) ?_
      refine TL.p (EvP.isF (EvP.ne rfl rfl) (by decide)) ?_
      refine TL.nil ?_
      refine TX.thenN rfl rfl ?_
      refine TC.cfalse rfl ?_
      refine TC.skip ?_
      refine TX.thenN rfl rfl ?_
      refine TC.seq ?_
      refine TC.region ?_
      refine TL.p (EvP.move rfl) ?_
      refine TL.p (EvP.move rfl) ?_
      refine TL.callA rfl rfl Tryd.call25 (fun w hs => deaths_spec (hdv.els encD_ok (by simp)) (hdr.inC (by simp)) (hD.els encD_ok (by simp)) (hRl.inC (by simp)) (by have := hRl.1; omega) hdz hs) ?_
      rintro _ rfl
      refine TL.p (EvP.move rfl) ?_
      refine TL.gY rfl rfl rfl ?_
      refine TL.callA rfl rfl Tryd.call17 (fun w hs => awake_spec hT hs) ?_
      rintro _ rfl
      refine TL.p (EvP.pickT rfl rfl) ?_
      refine TL.p (EvP.assign rfl) ?_
      refine TL.nil ?_
      refine TX.thenN rfl rfl ?_
      refine TC.ret ?_
      refine TX.done rfl (Res.one rfl rfl) (fun w hs => Post0.mk hs ?_ (by repeat (first | exact Le.refl _ | exact Le.nil _ | refine Le.hit ?_ | refine Le.hit1 ?_ | refine Le.hit2 ?_ | refine Le.hit3 ?_ | refine Le.hit4 ?_ | refine Le.hit5 ?_ | refine Le.hit6 ?_ | refine Le.hit7 ?_ | refine Le.hit8 ?_ | refine Le.hit9 ?_ | refine Le.hit10 ?_ | refine Le.skip ?_)))
      rfl
    · refine TL.callA rfl rfl Tryd.call18 (fun w hs => spread_bad (dvs := dvs2) (ds := ds) hT hG heL.came heL.came ⟨a3, c3, rfl, by omega, fun _ => hsp3, hD.els encD_ok (by simp), hRl.inC (by simp)⟩ hzl hzl (by omega) hdz hwr hs) ?_
      rintro _ rfl
      refine TL.p (EvP.move rfl) ?_
      refine TL.p (EvP.extract rfl rfl) ?_
      refine TL.p (EvP.extract rfl rfl) ?_
      refine TL.p (EvP.extract rfl rfl) ?_
      refine TL.p (EvP.assign rfl) ?_
      refine TL.p (EvP.assign rfl) ?_
      refine TL.p (EvP.assign rfl) ?_
      refine TL.nil ?_
      refine TX.thenN rfl rfl ?_
      refine TC.seq ?_
      refine TC.seq ?_
      refine TC.region ?_
      refine TL.p (EvP.move rfl) ?_
      refine TL.p (EvP.isT (EvP.ne rfl rfl) hwr) ?_
      refine TL.nil ?_
      refine TX.thenN rfl rfl ?_
      refine TC.ctrue rfl ?_
      refine TC.seq ?_
      refine TC.region ?_
      refine TL.p (EvP.move rfl) ?_
      refine TL.p (EvP.lenS Tryd.runUnderlying36 rfl) ?_
      refine TL.p (EvP.isT (EvP.eq rfl rfl) rfl) ?_
      refine TL.p (EvP.move rfl) ?_
      refine TL.gY rfl rfl rfl ?_
      refine TL.callA rfl rfl Tryd.call17 (fun w hs => awake_spec hT hs) ?_
      rintro _ rfl
      refine TL.p (EvP.pickT rfl rfl) ?_
      refine TL.p (EvP.assign rfl) ?_
      refine TL.nil ?_
      refine TX.thenN rfl rfl ?_
      refine TC.ret ?_
      refine TX.thenR ?_
      refine TX.done rfl (Res.one rfl rfl) (fun w hs => Post0.mk hs ?_ (by repeat (first | exact Le.refl _ | exact Le.nil _ | refine Le.hit ?_ | refine Le.hit1 ?_ | refine Le.hit2 ?_ | refine Le.hit3 ?_ | refine Le.hit4 ?_ | refine Le.hit5 ?_ | refine Le.hit6 ?_ | refine Le.hit7 ?_ | refine Le.hit8 ?_ | refine Le.hit9 ?_ | refine Le.hit10 ?_ | refine Le.skip ?_)))
      rfl
end Go.Proofs.YtdbpandamnkpdaaDoor
