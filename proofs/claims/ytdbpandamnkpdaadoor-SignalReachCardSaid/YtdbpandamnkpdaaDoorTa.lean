/-
  The law's made, copied, deaths, has.
-/
import Derived.Test.YtdbpandamnkpdaaDoorSj
set_option linter.unusedSimpArgs false
set_option linter.unusedVariables false
set_option maxRecDepth 100000
namespace Go.Proofs.YtdbpandamnkpdaaDoor
open Go Go.RowKit Go.Lib

/-- A call of layer 16. -/
structure LOp where
  k : Int
  a : Int
  b : Int
  r : Int
def LOp.enc (o : LOp) : List Value := [.int .i64 o.k, .int .i64 o.a, .int .i64 o.b, .int .i64 o.r]
def mstep (L : List Bond) (o : LOp) : List Bond := if o.k = 2 then (wat L o.r o.a o.b).2 else (lnk L o.a o.b).2
def mkL (ops : List LOp) : List Bond := ops.foldl mstep []
theorem mkL_snoc {ops : List LOp} {i : Nat} {o : LOp} (h : ops[i]? = some o) : mkL (ops.take (i + 1)) = mstep (mkL (ops.take i)) o := by
  unfold mkL
  rw [List.take_add_one, h]
  simp [List.foldl_append]
/-- Deaths in new memory, with marks behind their reasons. -/
def RelM (E : Chunk) (dvs : List Dv) (ds : List Dth) : Prop :=
  dvs.length = ds.length ∧ ∀ (i : Nat) (x : Dv) (d : Dth), dvs[i]? = some x → ds[i]? = some d → x.p = d.1 ∧ x.n = d.2.length ∧ x.n + 1 ≤ x.c ∧ (∀ q, x.a = some q → q.spot = none) ∧ Els (HoldsC E) (.slice x.a (x.n + 1) x.c) 3 Cl.enc 57 (d.2 ++ [markC])
theorem RelM.nil {E : Chunk} : RelM E [] [] := ⟨rfl, fun i x d h => by simp at h⟩
theorem RelM.rel {E : Chunk} {dvs : List Dv} {ds : List Dth} (h : RelM E dvs ds) : Rel (HoldsC E) dvs ds :=
  ⟨h.1, fun i x d hx hd => by
    obtain ⟨h1, h2, h3, h4, h5⟩ := h.2 i x d hx hd
    have := h5.takeS (j := d.2.length) (by simp)
    rw [List.take_left' rfl] at this
    exact ⟨h1, by unfold Dv.sl; rw [h2]; exact this⟩⟩
theorem RelM.snoc {E CL : Chunk} {dvs : List Dv} {ds : List Dth} (h : RelM E dvs ds) {p : Int} {xs : List Cl} {a : Option Addr} {c : Nat} (hc : xs.length + 1 ≤ c) (hs : ∀ q, a = some q → q.spot = none) (he : Els (HoldsC CL) (.slice a (xs.length + 1) c) 3 Cl.enc 57 (xs ++ [markC])) :
    RelM (CL ++ E) (dvs ++ [⟨p, a, xs.length, c⟩]) (ds ++ [(p, xs)]) := by
  refine ⟨by simp [h.1], fun i y e hy hey => ?_⟩
  by_cases hi : i < dvs.length
  · rw [List.getElem?_append_left hi] at hy
    rw [List.getElem?_append_left (by rw [← h.1]; exact hi)] at hey
    obtain ⟨h1, h2, h3, h4, h5⟩ := h.2 i y e hy hey
    exact ⟨h1, h2, h3, h4, h5.more fun x hx => List.mem_append.2 (.inr hx)⟩
  · have hl : i = dvs.length := by
      have := (List.getElem?_eq_some_iff.1 hy).1
      simp at this; omega
    subst hl
    simp only [List.getElem?_concat_length, Option.some.injEq] at hy
    subst hy
    rw [h.1] at hey
    simp only [List.getElem?_concat_length, Option.some.injEq] at hey
    subst hey
    exact ⟨rfl, rfl, hc, hs, he.more fun x hx => List.mem_append.2 (.inl hx)⟩

theorem made_spec {w0 w : World} {R : List Chunk} {v : Value} {ops : List LOp} (he : Els (fun w => w = w0) v 4 LOp.enc 82 ops) (hsz : ops.length < 4611686018427387904) (hst : St w0 w R) : Calls Tryd.prog 19 #[v] w (Post3 w0 R fun u C Cr D => ∃ g rr, u = .tuple #[.pointer (some ⟨g, 0, none⟩), .pointer (some ⟨rr, 0, none⟩)] ∧ IsG ops.length (mkL ops) g C ∧ RQ rr (mkL ops) Cr D) := by
  obtain ⟨⟨a, cap, rfl⟩, _⟩ := id he
  refine calls_of (args := [_]) Tryd.func19 rfl Tryd.ntmps19 hst ?_
  refine TC.seq ?_
  refine TC.region ?_
  refine TL.p (EvP.assign rfl) ?_
  refine TL.p (EvP.assign rfl) ?_
  refine TL.nil ?_
  refine TX.thenN rfl rfl ?_
  refine TC.seq ?_
  refine TC.region ?_
  refine TL.callB rfl rfl Tryd.call36 (fun w hs => new_spec hs) ?_
  rintro _ C ⟨g, rfl, hG⟩
  refine TL.p (EvP.buildS (is := []) (xs := []) rfl Tryd.runUnderlying80 Tryd.zeroValue80 rfl (.cons Tryd.sizeOf71 .nil) rfl rfl rfl) ?_
  refine TL.box rfl rfl (fun b10 => ?_)
  refine TL.le (Le.hit Le.nilC) ?_
  refine TL.p (EvP.assign rfl) ?_
  refine TL.p (EvP.assign rfl) ?_
  refine TL.nil ?_
  refine TX.thenN rfl rfl ?_
  refine TC.seq ?_
  refine TC.seq ?_
  refine TC.region ?_
  refine TL.p (EvP.move rfl) ?_
  refine TL.p (EvP.eqPtrNil Tryd.runUnderlying43 rfl rfl) ?_
  refine TL.nil ?_
  refine TX.thenN rfl rfl ?_
  refine TC.cfalse rfl ?_
  refine TC.skip ?_
  refine TX.thenN rfl rfl ?_
  refine TC.seq ?_
  refine TC.seq ?_
  refine TC.region ?_
  refine TL.p (EvP.move rfl) ?_
  refine TL.p (EvP.lenS Tryd.runUnderlying34 rfl) ?_
  refine TL.p (EvP.move rfl) ?_
  refine TL.nil ?_
  refine TX.thenN rfl rfl ?_
  refine TC.block ?_
  refine TC.loop (ι := Nat × Chunk × Chunk × Chunk) (fun (i, C, Cr, D) => [(4, .pointer (some ⟨g, 0, none⟩)), (5, .pointer (some ⟨b10, 0, none⟩)), (14, .slice a ops.length cap), (15, .int .i64 ops.length), (16, .int .i64 i)]) (fun (i, C, Cr, D) => C :: Cr :: D :: R) (fun (i, C, Cr, D) => i ≤ ops.length ∧ IsG i (mkL (ops.take i)) g C ∧ RQ b10 (mkL (ops.take i)) Cr D) (fun (i, C, Cr, D) => ops.length - i) ((0, C, [(b10, .cells [.slice none 0 0].toArray 80 (0, 0))], [])) (⟨by omega, hG, _, rfl, Sl.nil⟩) ⟨rfl, rfl, rfl, rfl, rfl, trivial⟩ (by repeat (first | exact Le.refl _ | exact Le.nil _ | refine Le.hit ?_ | refine Le.hit1 ?_ | refine Le.hit2 ?_ | refine Le.hit3 ?_ | refine Le.hit4 ?_ | refine Le.hit5 ?_ | refine Le.hit6 ?_ | refine Le.hit7 ?_ | refine Le.hit8 ?_ | refine Le.hit9 ?_ | refine Le.hit10 ?_ | refine Le.skip ?_)) ?_
  rintro ⟨i, C, Cr, D⟩ ⟨hi, hG, hR⟩
  change TC _ _ [(4, .pointer (some ⟨g, 0, none⟩)), (5, .pointer (some ⟨b10, 0, none⟩)), (14, .slice a ops.length cap), (15, .int .i64 ops.length), (16, .int .i64 i)] (C :: Cr :: D :: R) _
  refine TC.seq ?_
  refine TC.region ?_
  refine TL.dec (EvP.lt rfl rfl) (fun h17 => ?_) (fun h17 => ?_)
  · refine TL.nil ?_
    refine TX.thenN rfl rfl ?_
    refine TC.seq ?_
    refine TC.ctrue rfl ?_
    refine TC.skip ?_
    refine TX.thenN rfl rfl ?_
    refine TC.seq ?_
    refine TC.block ?_
    refine TC.seq ?_
    refine TC.region ?_
    have hlt : i < ops.length := by omega
    obtain ⟨o, hx⟩ : ∃ o, ops[i]? = some o := ⟨_, List.getElem?_eq_getElem hlt⟩
    have hll := hG.ok.len
    refine TL.elem (he.came.2 i o hx) Tryd.runUnderlying34 Tryd.sizeOf82 rfl rfl (fun bE oE lE _ _ hE hcE => ?_)
    refine TL.r (EvR.loadN (vs := [_, _, _, _]) rfl Tryd.isAgg82 Tryd.sizeOf82 hE hcE) ?_
    refine TL.alloc Tryd.zeroValue82 rfl (fun b7 => ?_)
    refine TL.u (EvU.store rfl rfl Tryd.sizeOf82 rfl rfl rfl rfl (by repeat (first | exact Has.hd | refine Has.tlb ?_ | refine Has.tlc ?_)) (by repeat (first | exact SetLs.nil | exact SetL.here | apply SetLs.cons | apply SetL.there)) (by repeat (first | exact Upd.hd | apply Upd.tlb | apply Upd.tlc))) ?_
    refine TL.nil ?_
    refine TX.thenN rfl rfl ?_
    refine TC.seq ?_
    refine TC.region ?_
    refine TL.p (EvP.fa (e := 0) rfl Tryd.runUnderlying82 rfl Tryd.sizeOf3 rfl) ?_
    refine TL.r (EvR.load rfl Tryd.isAgg3 (AtB.own (by repeat (first | exact Has.hd | refine Has.tlb ?_ | refine Has.tlc ?_))) (by rfl)) ?_
    refine TL.dec (EvP.eq rfl rfl) (fun h22 => ?_) (fun h22 => ?_)
    · refine TL.nil ?_
      refine TX.thenN rfl rfl ?_
      refine TC.ctrue rfl ?_
      refine TC.seq ?_
      refine TC.region ?_
      refine TL.p (EvP.move rfl) ?_
      refine TL.p (EvP.fa (e := 3) rfl Tryd.runUnderlying82 rfl Tryd.sizeOf2 rfl) ?_
      refine TL.r (EvR.load rfl Tryd.isAgg2 (AtB.own (by repeat (first | exact Has.hd | refine Has.tlb ?_ | refine Has.tlc ?_))) (by rfl)) ?_
      refine TL.p (EvP.fa (e := 1) rfl Tryd.runUnderlying82 rfl Tryd.sizeOf2 rfl) ?_
      refine TL.r (EvR.load rfl Tryd.isAgg2 (AtB.own (by repeat (first | exact Has.hd | refine Has.tlb ?_ | refine Has.tlc ?_))) (by rfl)) ?_
      refine TL.p (EvP.fa (e := 2) rfl Tryd.runUnderlying82 rfl Tryd.sizeOf2 rfl) ?_
      refine TL.r (EvR.load rfl Tryd.isAgg2 (AtB.own (by repeat (first | exact Has.hd | refine Has.tlb ?_ | refine Has.tlc ?_))) (by rfl)) ?_
      refine TL.le (Le.hit1 (Le.refl _)) ?_
      refine TL.callB rfl rfl Tryd.call42 (fun w hs => g_watch hG (by omega) o.r o.a o.b hs) ?_
      rintro _ C2 ⟨rfl, hG2⟩
      refine TL.nil ?_
      refine TX.thenN rfl rfl ?_
      refine TC.region ?_
      refine TL.p (EvP.move rfl) ?_
      refine TL.p (EvP.fa (e := 3) rfl Tryd.runUnderlying82 rfl Tryd.sizeOf2 rfl) ?_
      refine TL.r (EvR.load rfl Tryd.isAgg2 (AtB.own (by repeat (first | exact Has.hd | refine Has.tlb ?_ | refine Has.tlc ?_))) (by rfl)) ?_
      refine TL.p (EvP.fa (e := 1) rfl Tryd.runUnderlying82 rfl Tryd.sizeOf2 rfl) ?_
      refine TL.r (EvR.load rfl Tryd.isAgg2 (AtB.own (by repeat (first | exact Has.hd | refine Has.tlb ?_ | refine Has.tlc ?_))) (by rfl)) ?_
      refine TL.p (EvP.fa (e := 2) rfl Tryd.runUnderlying82 rfl Tryd.sizeOf2 rfl) ?_
      refine TL.r (EvR.load rfl Tryd.isAgg2 (AtB.own (by repeat (first | exact Has.hd | refine Has.tlb ?_ | refine Has.tlc ?_))) (by rfl)) ?_
      refine TL.le (Le.hit2 (Le.hit2 (Le.refl _))) ?_
      refine TL.callC rfl rfl Tryd.call43 (fun w hs => r_watch hR hll o.r o.a o.b hs) ?_
      rintro _ Cr2 D2 ⟨rfl, hR2⟩
      refine TL.nil ?_
      refine TX.blkN ?_
      refine TX.thenN rfl rfl ?_
      refine TC.region ?_
      refine TL.p (EvP.add rfl rfl (by omega)) ?_
      refine TL.p (EvP.move rfl) ?_
      refine TL.nil ?_
      refine TX.back ((i + 1, C2, Cr2, D2)) (⟨by omega, by rw [mkL_snoc hx]; unfold mstep; rw [if_pos (by omega)]; exact hG2, by rw [mkL_snoc hx]; unfold mstep; rw [if_pos (by omega)]; exact hR2⟩) (by simp only; omega) ⟨rfl, rfl, rfl, rfl, rfl, trivial⟩ (by repeat (first | exact Le.refl _ | exact Le.nil _ | refine Le.hit ?_ | refine Le.hit1 ?_ | refine Le.hit2 ?_ | refine Le.hit3 ?_ | refine Le.hit4 ?_ | refine Le.hit5 ?_ | refine Le.hit6 ?_ | refine Le.hit7 ?_ | refine Le.hit8 ?_ | refine Le.hit9 ?_ | refine Le.hit10 ?_ | refine Le.skip ?_))
    · refine TL.nil ?_
      refine TX.thenN rfl rfl ?_
      refine TC.cfalse rfl ?_
      refine TC.seq ?_
      refine TC.region ?_
      refine TL.p (EvP.move rfl) ?_
      refine TL.p (EvP.fa (e := 1) rfl Tryd.runUnderlying82 rfl Tryd.sizeOf2 rfl) ?_
      refine TL.r (EvR.load rfl Tryd.isAgg2 (AtB.own (by repeat (first | exact Has.hd | refine Has.tlb ?_ | refine Has.tlc ?_))) (by rfl)) ?_
      refine TL.p (EvP.fa (e := 2) rfl Tryd.runUnderlying82 rfl Tryd.sizeOf2 rfl) ?_
      refine TL.r (EvR.load rfl Tryd.isAgg2 (AtB.own (by repeat (first | exact Has.hd | refine Has.tlb ?_ | refine Has.tlc ?_))) (by rfl)) ?_
      refine TL.le (Le.hit1 (Le.refl _)) ?_
      refine TL.callB rfl rfl Tryd.call37 (fun w hs => g_link hG (by omega) o.a o.b hs) ?_
      rintro _ C2 ⟨rfl, hG2⟩
      refine TL.nil ?_
      refine TX.thenN rfl rfl ?_
      refine TC.region ?_
      refine TL.p (EvP.move rfl) ?_
      refine TL.p (EvP.fa (e := 1) rfl Tryd.runUnderlying82 rfl Tryd.sizeOf2 rfl) ?_
      refine TL.r (EvR.load rfl Tryd.isAgg2 (AtB.own (by repeat (first | exact Has.hd | refine Has.tlb ?_ | refine Has.tlc ?_))) (by rfl)) ?_
      refine TL.p (EvP.fa (e := 2) rfl Tryd.runUnderlying82 rfl Tryd.sizeOf2 rfl) ?_
      refine TL.r (EvR.load rfl Tryd.isAgg2 (AtB.own (by repeat (first | exact Has.hd | refine Has.tlb ?_ | refine Has.tlc ?_))) (by rfl)) ?_
      refine TL.le (Le.hit2 (Le.hit2 (Le.refl _))) ?_
      refine TL.callC rfl rfl Tryd.call44 (fun w hs => r_link hR hll o.a o.b hs) ?_
      rintro _ Cr2 D2 ⟨rfl, hR2⟩
      refine TL.nil ?_
      refine TX.blkN ?_
      refine TX.thenN rfl rfl ?_
      refine TC.region ?_
      refine TL.p (EvP.add rfl rfl (by omega)) ?_
      refine TL.p (EvP.move rfl) ?_
      refine TL.nil ?_
      refine TX.back ((i + 1, C2, Cr2, D2)) (⟨by omega, by rw [mkL_snoc hx]; unfold mstep; rw [if_neg (by omega)]; exact hG2, by rw [mkL_snoc hx]; unfold mstep; rw [if_neg (by omega)]; exact hR2⟩) (by simp only; omega) ⟨rfl, rfl, rfl, rfl, rfl, trivial⟩ (by repeat (first | exact Le.refl _ | exact Le.nil _ | refine Le.hit ?_ | refine Le.hit1 ?_ | refine Le.hit2 ?_ | refine Le.hit3 ?_ | refine Le.hit4 ?_ | refine Le.hit5 ?_ | refine Le.hit6 ?_ | refine Le.hit7 ?_ | refine Le.hit8 ?_ | refine Le.hit9 ?_ | refine Le.hit10 ?_ | refine Le.skip ?_))
  · refine TL.nil ?_
    refine TX.thenN rfl rfl ?_
    refine TC.seq ?_
    refine TC.cfalse rfl ?_
    refine TC.exit ?_
    refine TX.thenE ?_
    refine TX.thenE ?_
    refine TX.blkH ?_
    refine TX.thenN rfl rfl ?_
    refine TC.seq ?_
    refine TC.region ?_
    refine TL.p (EvP.move rfl) ?_
    refine TL.p (EvP.move rfl) ?_
    refine TL.p (EvP.assign rfl) ?_
    refine TL.p (EvP.assign rfl) ?_
    refine TL.nil ?_
    refine TX.thenN rfl rfl ?_
    refine TC.ret ?_
    have hi3 : i = ops.length := by omega
    subst hi3
    rw [List.take_length] at hG hR
    refine TX.done rfl (Res.two rfl rfl rfl) (fun w hs => Post3.mk (C := C) (D := Cr) (E := D) hs ⟨g, b10, rfl, hG, hR⟩ (by repeat (first | exact Le.refl _ | exact Le.nil _ | refine Le.hit ?_ | refine Le.hit1 ?_ | refine Le.hit2 ?_ | refine Le.hit3 ?_ | refine Le.hit4 ?_ | refine Le.hit5 ?_ | refine Le.hit6 ?_ | refine Le.hit7 ?_ | refine Le.hit8 ?_ | refine Le.hit9 ?_ | refine Le.hit10 ?_ | refine Le.skip ?_)))

theorem copied_spec {w0 w : World} {R : List Chunk} {v : Value} {dvs : List Dv} {ds : List Dth} (heF : Els (fun w => St w0 w R) v 2 Dv.enc 48 dvs) (hrelF : Rel (fun w => St w0 w R) dvs ds) (hzd : dvs.length ≤ 4398046511000) (hdz : ∀ d ∈ ds, d.2.length ≤ 4398046511000) (hst : St w0 w R) : Calls Tryd.prog 23 #[v] w (Post2 w0 R fun u D E => ∃ dvs2, Sl 48 2 Dv.enc u dvs2 D ∧ RelM E dvs2 ds) := by
  obtain ⟨⟨aF, cF, rfl⟩, _⟩ := id heF
  have hlenF := hrelF.1
  refine calls_of (args := [_]) Tryd.func23 rfl Tryd.ntmps23 hst ?_
  refine TC.seq ?_
  refine TC.region ?_
  refine TL.p (EvP.assign rfl) ?_
  refine TL.nil ?_
  refine TX.thenN rfl rfl ?_
  refine TC.seq ?_
  refine TC.region ?_
  refine TL.p (EvP.assign rfl) ?_
  refine TL.nil ?_
  refine TX.thenN rfl rfl ?_
  refine TC.seq ?_
  refine TC.seq ?_
  refine TC.region ?_
  refine TL.le Le.nilC ?_
  refine TL.le Le.nilC ?_
  refine TL.p (EvP.move rfl) ?_
  refine TL.p (EvP.lenS Tryd.runUnderlying36 rfl) ?_
  refine TL.p (EvP.move rfl) ?_
  refine TL.nil ?_
  refine TX.thenN rfl rfl ?_
  refine TC.block ?_
  refine TC.loop (ι := Nat × Value × List Dv × Chunk × Chunk) (fun (i, v, dvs2, D, E) => [(3, v), (6, .slice aF dvs.length cF), (7, .int .i64 dvs.length), (8, .int .i64 i)]) (fun (i, v, dvs2, D, E) => D :: E :: R) (fun (i, v, dvs2, D, E) => i ≤ dvs.length ∧ Sl 48 2 Dv.enc v dvs2 D ∧ RelM E dvs2 (ds.take i)) (fun (i, v, dvs2, D, E) => dvs.length - i) ((0, .slice none 0 0, [], [], [])) (⟨Nat.zero_le _, Sl.nil, RelM.nil⟩) ⟨rfl, rfl, rfl, rfl, trivial⟩ (by repeat (first | exact Le.refl _ | exact Le.nil _ | refine Le.hit ?_ | refine Le.hit1 ?_ | refine Le.hit2 ?_ | refine Le.hit3 ?_ | refine Le.hit4 ?_ | refine Le.hit5 ?_ | refine Le.hit6 ?_ | refine Le.hit7 ?_ | refine Le.hit8 ?_ | refine Le.hit9 ?_ | refine Le.hit10 ?_ | refine Le.skip ?_)) ?_
  rintro ⟨i, v, dvs2, D, E⟩ ⟨hi, hD, hRM⟩
  change TC _ _ [(3, v), (6, .slice aF dvs.length cF), (7, .int .i64 dvs.length), (8, .int .i64 i)] (D :: E :: R) _
  refine TC.seq ?_
  refine TC.region ?_
  refine TL.dec (EvP.lt rfl rfl) (fun h9 => ?_) (fun h9 => ?_)
  · refine TL.nil ?_
    refine TX.thenN rfl rfl ?_
    refine TC.seq ?_
    refine TC.ctrue rfl ?_
    refine TC.skip ?_
    refine TX.thenN rfl rfl ?_
    refine TC.seq ?_
    refine TC.block ?_
    refine TC.seq ?_
    refine TC.region ?_
    have hlt : i < dvs.length := by omega
    obtain ⟨x, hx⟩ : ∃ x, dvs[i]? = some x := ⟨_, List.getElem?_eq_getElem hlt⟩
    obtain ⟨d, hd, hp, hr⟩ := hrelF.at hx
    have hdl := hdz d (List.mem_of_getElem? hd)
    have hde : (x.p, d.2) = d := by rw [hp]
    have hl2 : dvs2.length = i := by rw [hRM.1, List.length_take]; omega
    refine TL.elem ((heF.sub (by repeat (first | exact Le.refl _ | exact Le.nil _ | refine Le.hit ?_ | refine Le.hit1 ?_ | refine Le.hit2 ?_ | refine Le.hit3 ?_ | refine Le.hit4 ?_ | refine Le.hit5 ?_ | refine Le.hit6 ?_ | refine Le.hit7 ?_ | refine Le.hit8 ?_ | refine Le.hit9 ?_ | refine Le.hit10 ?_ | refine Le.skip ?_))).elAt hx) Tryd.runUnderlying36 Tryd.sizeOf48 rfl rfl (fun bE oE lE _ _ hE hcE => ?_)
    refine TL.r (EvR.loadN (vs := [_, _]) rfl Tryd.isAgg48 Tryd.sizeOf48 hE hcE) ?_
    refine TL.alloc Tryd.zeroValue48 rfl (fun b5 => ?_)
    refine TL.u (EvU.store rfl rfl Tryd.sizeOf48 rfl rfl rfl rfl (by repeat (first | exact Has.hd | refine Has.tlb ?_ | refine Has.tlc ?_)) (by repeat (first | exact SetLs.nil | exact SetL.here | apply SetLs.cons | apply SetL.there)) (by repeat (first | exact Upd.hd | apply Upd.tlb | apply Upd.tlc))) ?_
    refine TL.nil ?_
    refine TX.thenN rfl rfl ?_
    refine TC.drawn (listed := #[false, false, false, false, false, false, false, false, false, false]) 10 (fun _ => True) rfl rfl rfl rfl (fun _ _ => trivial) ?_
    refine TR.take 0 rfl (by kernel_rfl) (by kernel_rfl) (by kernel_rfl) (EvP.r (by exact EvP.move rfl)) (l' := #[true, false, false, false, false, false, false, false, false, false]) rfl ?_
    refine TR.take 1 rfl (by kernel_rfl) (by kernel_rfl) (by kernel_rfl) (EvP.r (by exact EvP.fa (e := 0) rfl Tryd.runUnderlying48 rfl Tryd.sizeOf2 rfl)) (l' := #[true, true, false, false, false, false, false, false, false, false]) rfl ?_
    refine TR.take 3 rfl (by kernel_rfl) (by kernel_rfl) (by kernel_rfl) (EvP.r (by exact EvP.fa (e := 1) rfl Tryd.runUnderlying48 rfl Tryd.sizeOf22 rfl)) (l' := #[true, true, false, true, false, false, false, false, false, false]) rfl ?_
    refine TR.two (i := 2) (j := 4) (by kernel_rfl) ?_ ?_
    · refine TRi.r rfl (EvR.load rfl Tryd.isAgg2 (AtB.own (by repeat (first | exact Has.hd | refine Has.tlb ?_ | refine Has.tlc ?_))) (by rfl)) (fun _ _ => trivial) (l' := #[true, true, true, true, false, false, false, false, false, false]) rfl ?_
      refine TR.one (i := 4) (by kernel_rfl) ?_
      refine TRi.r rfl (EvR.load rfl Tryd.isAgg22 (AtB.own (by repeat (first | exact Has.hd | refine Has.tlb ?_ | refine Has.tlc ?_))) (by rfl)) (fun _ _ => trivial) (l' := #[true, true, true, true, true, false, false, false, false, false]) rfl ?_
      refine TR.one (i := 5) (by kernel_rfl) ?_
      refine TRi.call rfl rfl rfl Tryd.call7 (fun w hs => lent_spec (hr.sub (by repeat (first | exact Le.refl _ | exact Le.nil _ | refine Le.hit ?_ | refine Le.hit1 ?_ | refine Le.hit2 ?_ | refine Le.hit3 ?_ | refine Le.hit4 ?_ | refine Le.hit5 ?_ | refine Le.hit6 ?_ | refine Le.hit7 ?_ | refine Le.hit8 ?_ | refine Le.hit9 ?_ | refine Le.hit10 ?_ | refine Le.skip ?_))) hdl hs) (l' := #[true, true, true, true, true, true, false, false, false, false]) rfl ?_
      rintro uL _ ⟨CL, rfl, hL⟩
      obtain ⟨aL, cL, rfl, hcL, hsL, hSL⟩ := id hL
      refine ⟨fun _ _ => trivial, ?_⟩
      refine TR.take 6 rfl (by kernel_rfl) (by kernel_rfl) (by kernel_rfl) (EvP.r (by exact EvP.buildS (is := [0, 1]) (xs := [_, _]) rfl Tryd.runUnderlying48 Tryd.zeroValue48 rfl (.cons Tryd.sizeOf2 (.cons Tryd.sizeOf22 .nil)) rfl rfl rfl)) (l' := #[true, true, true, true, true, true, true, false, false, false]) rfl ?_
      refine TR.one (i := 7) (by kernel_rfl) ?_
      refine TRi.w rfl (EvW.lit1 ((⟨x.p, aL, d.2.length, cL⟩ : Dv)) rfl elDe Tryd.underlying36 (by decide) (by decide) encD_ok rfl) (l' := #[true, true, true, true, true, true, true, true, false, false]) rfl ?_
      rintro _ _ ⟨D1, hD1, rfl⟩
      refine ⟨fun _ _ => trivial, ?_⟩
      refine TR.one (i := 8) (by kernel_rfl) ?_
      refine TRi.le (Le.hit3 (Le.refl _)) ?_
      refine TRi.w rfl (EvW.append rfl rfl elDe Tryd.underlying36 encD_ok hD (SrcR.sl Tryd.underlying36 encD_ok hD1 (by simp)) (by rw [hl2]; simp only [List.length_singleton]; omega) (by decide)) (l' := #[true, true, true, true, true, true, true, true, true, false]) rfl ?_
      rintro v2 _ ⟨C3, hC3, rfl⟩
      refine ⟨fun _ _ => trivial, ?_⟩
      refine TR.take 9 rfl (by kernel_rfl) (by kernel_rfl) (by kernel_rfl) (EvP.r (by exact EvP.assign rfl)) (l' := #[true, true, true, true, true, true, true, true, true, true]) rfl ?_
      refine TR.done (by kernel_rfl) ?_
      refine TX.blkN ?_
      refine TX.thenN rfl rfl ?_
      refine TC.region ?_
      refine TL.p (EvP.add rfl rfl (by omega)) ?_
      refine TL.p (EvP.move rfl) ?_
      refine TL.nil ?_
      refine TX.le (Le.hit (Le.hit1 (Le.hit2 (Le.refl _)))) ?_
      refine TX.le (Le.hit (Le.join (Le.refl _))) ?_
      refine TX.back ((i + 1, v2, _, C3, CL ++ E)) (⟨by omega, hC3, by rw [take_snoc hd, ← hde]; exact hRM.snoc hcL hsL (hSL.elsC encC_ok)⟩) (by simp only; omega) ⟨rfl, rfl, rfl, rfl, trivial⟩ (by repeat (first | exact Le.refl _ | exact Le.nil _ | refine Le.hit ?_ | refine Le.hit1 ?_ | refine Le.hit2 ?_ | refine Le.hit3 ?_ | refine Le.hit4 ?_ | refine Le.hit5 ?_ | refine Le.hit6 ?_ | refine Le.hit7 ?_ | refine Le.hit8 ?_ | refine Le.hit9 ?_ | refine Le.hit10 ?_ | refine Le.skip ?_))
    · refine TRi.r rfl (EvR.load rfl Tryd.isAgg22 (AtB.own (by repeat (first | exact Has.hd | refine Has.tlb ?_ | refine Has.tlc ?_))) (by rfl)) (fun _ _ => trivial) (l' := #[true, true, false, true, true, false, false, false, false, false]) rfl ?_
      refine TR.two (i := 2) (j := 5) (by kernel_rfl) ?_ ?_
      · refine TRi.r rfl (EvR.load rfl Tryd.isAgg2 (AtB.own (by repeat (first | exact Has.hd | refine Has.tlb ?_ | refine Has.tlc ?_))) (by rfl)) (fun _ _ => trivial) (l' := #[true, true, true, true, true, false, false, false, false, false]) rfl ?_
        refine TR.one (i := 5) (by kernel_rfl) ?_
        refine TRi.call rfl rfl rfl Tryd.call7 (fun w hs => lent_spec (hr.sub (by repeat (first | exact Le.refl _ | exact Le.nil _ | refine Le.hit ?_ | refine Le.hit1 ?_ | refine Le.hit2 ?_ | refine Le.hit3 ?_ | refine Le.hit4 ?_ | refine Le.hit5 ?_ | refine Le.hit6 ?_ | refine Le.hit7 ?_ | refine Le.hit8 ?_ | refine Le.hit9 ?_ | refine Le.hit10 ?_ | refine Le.skip ?_))) hdl hs) (l' := #[true, true, true, true, true, true, false, false, false, false]) rfl ?_
        rintro uL _ ⟨CL, rfl, hL⟩
        obtain ⟨aL, cL, rfl, hcL, hsL, hSL⟩ := id hL
        refine ⟨fun _ _ => trivial, ?_⟩
        refine TR.take 6 rfl (by kernel_rfl) (by kernel_rfl) (by kernel_rfl) (EvP.r (by exact EvP.buildS (is := [0, 1]) (xs := [_, _]) rfl Tryd.runUnderlying48 Tryd.zeroValue48 rfl (.cons Tryd.sizeOf2 (.cons Tryd.sizeOf22 .nil)) rfl rfl rfl)) (l' := #[true, true, true, true, true, true, true, false, false, false]) rfl ?_
        refine TR.one (i := 7) (by kernel_rfl) ?_
        refine TRi.w rfl (EvW.lit1 ((⟨x.p, aL, d.2.length, cL⟩ : Dv)) rfl elDe Tryd.underlying36 (by decide) (by decide) encD_ok rfl) (l' := #[true, true, true, true, true, true, true, true, false, false]) rfl ?_
        rintro _ _ ⟨D4, hD4, rfl⟩
        refine ⟨fun _ _ => trivial, ?_⟩
        refine TR.one (i := 8) (by kernel_rfl) ?_
        refine TRi.le (Le.hit3 (Le.refl _)) ?_
        refine TRi.w rfl (EvW.append rfl rfl elDe Tryd.underlying36 encD_ok hD (SrcR.sl Tryd.underlying36 encD_ok hD4 (by simp)) (by rw [hl2]; simp only [List.length_singleton]; omega) (by decide)) (l' := #[true, true, true, true, true, true, true, true, true, false]) rfl ?_
        rintro v5 _ ⟨C6, hC6, rfl⟩
        refine ⟨fun _ _ => trivial, ?_⟩
        refine TR.take 9 rfl (by kernel_rfl) (by kernel_rfl) (by kernel_rfl) (EvP.r (by exact EvP.assign rfl)) (l' := #[true, true, true, true, true, true, true, true, true, true]) rfl ?_
        refine TR.done (by kernel_rfl) ?_
        refine TX.blkN ?_
        refine TX.thenN rfl rfl ?_
        refine TC.region ?_
        refine TL.p (EvP.add rfl rfl (by omega)) ?_
        refine TL.p (EvP.move rfl) ?_
        refine TL.nil ?_
        refine TX.le (Le.hit (Le.hit1 (Le.hit2 (Le.refl _)))) ?_
        refine TX.le (Le.hit (Le.join (Le.refl _))) ?_
        refine TX.back ((i + 1, v5, _, C6, CL ++ E)) (⟨by omega, hC6, by rw [take_snoc hd, ← hde]; exact hRM.snoc hcL hsL (hSL.elsC encC_ok)⟩) (by simp only; omega) ⟨rfl, rfl, rfl, rfl, trivial⟩ (by repeat (first | exact Le.refl _ | exact Le.nil _ | refine Le.hit ?_ | refine Le.hit1 ?_ | refine Le.hit2 ?_ | refine Le.hit3 ?_ | refine Le.hit4 ?_ | refine Le.hit5 ?_ | refine Le.hit6 ?_ | refine Le.hit7 ?_ | refine Le.hit8 ?_ | refine Le.hit9 ?_ | refine Le.hit10 ?_ | refine Le.skip ?_))
      · refine TRi.call rfl rfl rfl Tryd.call7 (fun w hs => lent_spec (hr.sub (by repeat (first | exact Le.refl _ | exact Le.nil _ | refine Le.hit ?_ | refine Le.hit1 ?_ | refine Le.hit2 ?_ | refine Le.hit3 ?_ | refine Le.hit4 ?_ | refine Le.hit5 ?_ | refine Le.hit6 ?_ | refine Le.hit7 ?_ | refine Le.hit8 ?_ | refine Le.hit9 ?_ | refine Le.hit10 ?_ | refine Le.skip ?_))) hdl hs) (l' := #[true, true, false, true, true, true, false, false, false, false]) rfl ?_
        rintro uL _ ⟨CL, rfl, hL⟩
        obtain ⟨aL, cL, rfl, hcL, hsL, hSL⟩ := id hL
        refine ⟨fun _ _ => trivial, ?_⟩
        refine TR.one (i := 2) (by kernel_rfl) ?_
        refine TRi.r rfl (EvR.load rfl Tryd.isAgg2 (AtB.own (by repeat (first | exact Has.hd | refine Has.tlb ?_ | refine Has.tlc ?_))) (by rfl)) (fun _ _ => trivial) (l' := #[true, true, true, true, true, true, false, false, false, false]) rfl ?_
        refine TR.take 6 rfl (by kernel_rfl) (by kernel_rfl) (by kernel_rfl) (EvP.r (by exact EvP.buildS (is := [0, 1]) (xs := [_, _]) rfl Tryd.runUnderlying48 Tryd.zeroValue48 rfl (.cons Tryd.sizeOf2 (.cons Tryd.sizeOf22 .nil)) rfl rfl rfl)) (l' := #[true, true, true, true, true, true, true, false, false, false]) rfl ?_
        refine TR.one (i := 7) (by kernel_rfl) ?_
        refine TRi.w rfl (EvW.lit1 ((⟨x.p, aL, d.2.length, cL⟩ : Dv)) rfl elDe Tryd.underlying36 (by decide) (by decide) encD_ok rfl) (l' := #[true, true, true, true, true, true, true, true, false, false]) rfl ?_
        rintro _ _ ⟨D7, hD7, rfl⟩
        refine ⟨fun _ _ => trivial, ?_⟩
        refine TR.one (i := 8) (by kernel_rfl) ?_
        refine TRi.le (Le.hit3 (Le.refl _)) ?_
        refine TRi.w rfl (EvW.append rfl rfl elDe Tryd.underlying36 encD_ok hD (SrcR.sl Tryd.underlying36 encD_ok hD7 (by simp)) (by rw [hl2]; simp only [List.length_singleton]; omega) (by decide)) (l' := #[true, true, true, true, true, true, true, true, true, false]) rfl ?_
        rintro v8 _ ⟨C9, hC9, rfl⟩
        refine ⟨fun _ _ => trivial, ?_⟩
        refine TR.take 9 rfl (by kernel_rfl) (by kernel_rfl) (by kernel_rfl) (EvP.r (by exact EvP.assign rfl)) (l' := #[true, true, true, true, true, true, true, true, true, true]) rfl ?_
        refine TR.done (by kernel_rfl) ?_
        refine TX.blkN ?_
        refine TX.thenN rfl rfl ?_
        refine TC.region ?_
        refine TL.p (EvP.add rfl rfl (by omega)) ?_
        refine TL.p (EvP.move rfl) ?_
        refine TL.nil ?_
        refine TX.le (Le.hit (Le.hit1 (Le.hit2 (Le.refl _)))) ?_
        refine TX.le (Le.hit (Le.join (Le.refl _))) ?_
        refine TX.back ((i + 1, v8, _, C9, CL ++ E)) (⟨by omega, hC9, by rw [take_snoc hd, ← hde]; exact hRM.snoc hcL hsL (hSL.elsC encC_ok)⟩) (by simp only; omega) ⟨rfl, rfl, rfl, rfl, trivial⟩ (by repeat (first | exact Le.refl _ | exact Le.nil _ | refine Le.hit ?_ | refine Le.hit1 ?_ | refine Le.hit2 ?_ | refine Le.hit3 ?_ | refine Le.hit4 ?_ | refine Le.hit5 ?_ | refine Le.hit6 ?_ | refine Le.hit7 ?_ | refine Le.hit8 ?_ | refine Le.hit9 ?_ | refine Le.hit10 ?_ | refine Le.skip ?_))
  · refine TL.nil ?_
    refine TX.thenN rfl rfl ?_
    refine TC.seq ?_
    refine TC.cfalse rfl ?_
    refine TC.exit ?_
    refine TX.thenE ?_
    refine TX.thenE ?_
    refine TX.blkH ?_
    refine TX.thenN rfl rfl ?_
    refine TC.seq ?_
    refine TC.region ?_
    refine TL.p (EvP.move rfl) ?_
    refine TL.p (EvP.assign rfl) ?_
    refine TL.nil ?_
    refine TX.thenN rfl rfl ?_
    refine TC.ret ?_
    have hi3 : i = dvs.length := by omega
    rw [List.take_of_length_le (by omega)] at hRM
    refine TX.done rfl (Res.one rfl rfl) (fun w hs => Post2.mk (C := D) (D := E) hs ⟨dvs2, hD, hRM⟩ (by repeat (first | exact Le.refl _ | exact Le.nil _ | refine Le.hit ?_ | refine Le.hit1 ?_ | refine Le.hit2 ?_ | refine Le.hit3 ?_ | refine Le.hit4 ?_ | refine Le.hit5 ?_ | refine Le.hit6 ?_ | refine Le.hit7 ?_ | refine Le.hit8 ?_ | refine Le.hit9 ?_ | refine Le.hit10 ?_ | refine Le.skip ?_)))

theorem deaths_spec {w0 w : World} {H : List Chunk} {u v : Value} {dv1 dv2 : List Dv} {ds : List Dth} (he1 : Els (fun w => St w0 w H) u 2 Dv.enc 48 dv1) (hr1 : Rel (fun w => St w0 w H) dv1 ds) (he2 : Els (fun w => St w0 w H) v 2 Dv.enc 48 dv2) (hr2 : Rel (fun w => St w0 w H) dv2 ds) (hsz : ds.length < 4611686018427387904) (hdz : ∀ d ∈ ds, d.2.length ≤ 4398046511000) (hst : St w0 w H) : Calls Tryd.prog 25 #[u, v] w (Post0 w0 H fun u => u = .bool true) := by
  obtain ⟨⟨a1, cap1, rfl⟩, h1⟩ := he1
  obtain ⟨⟨a2, cap2, rfl⟩, h2⟩ := he2
  have hl1 := hr1.1
  have hl2 := hr2.1
  refine calls_of (args := [_, _]) Tryd.func25 rfl Tryd.ntmps25 hst ?_
  refine TC.seq ?_
  refine TC.region ?_
  refine TL.p (EvP.assign rfl) ?_
  refine TL.nil ?_
  refine TX.thenN rfl rfl ?_
  refine TC.seq ?_
  refine TC.seq ?_
  refine TC.region ?_
  refine TL.p (EvP.move rfl) ?_
  refine TL.p (EvP.lenS Tryd.runUnderlying36 rfl) ?_
  refine TL.p (EvP.move rfl) ?_
  refine TL.p (EvP.lenS Tryd.runUnderlying36 rfl) ?_
  refine TL.p (EvP.isF (EvP.ne rfl rfl) (by omega)) ?_
  refine TL.nil ?_
  refine TX.thenN rfl rfl ?_
  refine TC.cfalse rfl ?_
  refine TC.skip ?_
  refine TX.thenN rfl rfl ?_
  refine TC.seq ?_
  refine TC.seq ?_
  refine TC.region ?_
  refine TL.p (EvP.move rfl) ?_
  refine TL.p (EvP.lenS Tryd.runUnderlying36 rfl) ?_
  refine TL.p (EvP.move rfl) ?_
  refine TL.nil ?_
  refine TX.thenN rfl rfl ?_
  refine TC.block ?_
  refine TC.loop (ι := Nat) (fun i => [(0, .slice a1 dv1.length cap1), (1, .slice a2 dv2.length cap2), (11, .slice a1 dv1.length cap1), (12, .int .i64 dv1.length), (13, .int .i64 i)]) (fun i => H) (fun i => i ≤ dv1.length) (fun i => dv1.length - i) (0) (Nat.zero_le _) ⟨rfl, rfl, rfl, rfl, rfl, trivial⟩ (by repeat (first | exact Le.refl _ | exact Le.nil _ | refine Le.hit ?_ | refine Le.hit1 ?_ | refine Le.hit2 ?_ | refine Le.hit3 ?_ | refine Le.hit4 ?_ | refine Le.hit5 ?_ | refine Le.hit6 ?_ | refine Le.hit7 ?_ | refine Le.hit8 ?_ | refine Le.hit9 ?_ | refine Le.hit10 ?_ | refine Le.skip ?_)) ?_
  rintro i hi
  change TC _ _ [(0, .slice a1 dv1.length cap1), (1, .slice a2 dv2.length cap2), (11, .slice a1 dv1.length cap1), (12, .int .i64 dv1.length), (13, .int .i64 i)] (H) _
  refine TC.seq ?_
  refine TC.region ?_
  refine TL.dec (EvP.lt rfl rfl) (fun h14 => ?_) (fun h14 => ?_)
  · refine TL.nil ?_
    refine TX.thenN rfl rfl ?_
    refine TC.seq ?_
    refine TC.ctrue rfl ?_
    refine TC.skip ?_
    refine TX.thenN rfl rfl ?_
    refine TC.seq ?_
    refine TC.block ?_
    refine TC.seq ?_
    refine TC.region ?_
    refine TL.p (EvP.move rfl) ?_
    refine TL.p (EvP.assign rfl) ?_
    refine TL.nil ?_
    refine TX.thenN rfl rfl ?_
    refine TC.seq ?_
    refine TC.drawn (listed := #[false, false, false, false, false, false, false, false, false, false, false, false, false, false, false, false, false, false, false, false, false, false, false, false, false]) 25 (fun w => St w0 w H) rfl rfl rfl rfl (fun _ hs => hs) ?_
    refine TR.take 0 rfl (by kernel_rfl) (by kernel_rfl) (by kernel_rfl) (EvP.r (by exact EvP.move rfl)) (l' := #[true, false, false, false, false, false, false, false, false, false, false, false, false, false, false, false, false, false, false, false, false, false, false, false, false]) rfl ?_
    refine TR.take 1 rfl (by kernel_rfl) (by kernel_rfl) (by kernel_rfl) (EvP.r (by exact EvP.move rfl)) (l' := #[true, true, false, false, false, false, false, false, false, false, false, false, false, false, false, false, false, false, false, false, false, false, false, false, false]) rfl ?_
    have hlt : i < dv1.length := by omega
    obtain ⟨x, hx⟩ : ∃ x, dv1[i]? = some x := ⟨_, List.getElem?_eq_getElem hlt⟩
    obtain ⟨y, hy⟩ : ∃ y, dv2[i]? = some y := ⟨_, List.getElem?_eq_getElem (by omega)⟩
    obtain ⟨d, hd, hpx, hrx⟩ := hr1.at hx
    obtain ⟨hpy, hry⟩ := hr2.2 i y d hy hd
    have hdl := hdz d (List.mem_of_getElem? hd)
    obtain ⟨c1, o1, n1, k1, l1, _, _, q1, hj1, hb1, hc1⟩ := h1 i x hx
    obtain ⟨c2, o2, n2, k2, l2, _, _, q2, hj2, hb2, hc2⟩ := h2 i y hy
    cases q1
    cases q2
    refine TR.take 2 rfl (by kernel_rfl) (by kernel_rfl) (by kernel_rfl) (EvP.r (by exact EvP.ix (j := (i : Int)) Tryd.runUnderlying36 Tryd.sizeOf48 rfl rfl ⟨by omega, by omega⟩)) (l' := #[true, true, true, false, false, false, false, false, false, false, false, false, false, false, false, false, false, false, false, false, false, false, false, false, false]) rfl ?_
    refine TR.take 3 rfl (by kernel_rfl) (by kernel_rfl) (by kernel_rfl) (EvP.r (by exact EvP.fa rfl Tryd.runUnderlying48 rfl Tryd.sizeOf2 rfl)) (l' := #[true, true, true, true, false, false, false, false, false, false, false, false, false, false, false, false, false, false, false, false, false, false, false, false, false]) rfl ?_
    refine TR.take 4 rfl (by kernel_rfl) (by kernel_rfl) (by kernel_rfl) (EvR.load rfl Tryd.isAgg2 hb1 hc1.1) (l' := #[true, true, true, true, true, false, false, false, false, false, false, false, false, false, false, false, false, false, false, false, false, false, false, false, false]) rfl ?_
    refine TR.take 5 rfl (by kernel_rfl) (by kernel_rfl) (by kernel_rfl) (EvP.r (by exact EvP.move rfl)) (l' := #[true, true, true, true, true, true, false, false, false, false, false, false, false, false, false, false, false, false, false, false, false, false, false, false, false]) rfl ?_
    refine TR.take 6 rfl (by kernel_rfl) (by kernel_rfl) (by kernel_rfl) (EvP.r (by exact EvP.move rfl)) (l' := #[true, true, true, true, true, true, true, false, false, false, false, false, false, false, false, false, false, false, false, false, false, false, false, false, false]) rfl ?_
    refine TR.take 7 rfl (by kernel_rfl) (by kernel_rfl) (by kernel_rfl) (EvP.r (by exact EvP.ix (j := (i : Int)) Tryd.runUnderlying36 Tryd.sizeOf48 rfl rfl ⟨by omega, by omega⟩)) (l' := #[true, true, true, true, true, true, true, true, false, false, false, false, false, false, false, false, false, false, false, false, false, false, false, false, false]) rfl ?_
    refine TR.take 8 rfl (by kernel_rfl) (by kernel_rfl) (by kernel_rfl) (EvP.r (by exact EvP.fa rfl Tryd.runUnderlying48 rfl Tryd.sizeOf2 rfl)) (l' := #[true, true, true, true, true, true, true, true, true, false, false, false, false, false, false, false, false, false, false, false, false, false, false, false, false]) rfl ?_
    refine TR.take 9 rfl (by kernel_rfl) (by kernel_rfl) (by kernel_rfl) (EvR.load rfl Tryd.isAgg2 hb2 hc2.1) (l' := #[true, true, true, true, true, true, true, true, true, true, false, false, false, false, false, false, false, false, false, false, false, false, false, false, false]) rfl ?_
    refine TR.take 10 rfl (by kernel_rfl) (by kernel_rfl) (by kernel_rfl) (EvP.r (by exact EvP.isF (EvP.ne rfl rfl) (by omega))) (l' := #[true, true, true, true, true, true, true, true, true, true, true, false, false, false, false, false, false, false, false, false, false, false, false, false, false]) rfl ?_
    refine TR.take 11 rfl (by kernel_rfl) (by kernel_rfl) (by kernel_rfl) (EvP.r (by exact EvP.move rfl)) (l' := #[true, true, true, true, true, true, true, true, true, true, true, true, false, false, false, false, false, false, false, false, false, false, false, false, false]) rfl ?_
    refine TR.takeY 12 rfl rfl rfl rfl (by kernel_rfl) (by kernel_rfl) (by kernel_rfl) (EvP.r (by exact EvP.move rfl)) (l' := #[true, true, true, true, true, true, true, true, true, true, true, true, true, false, false, false, false, false, false, false, false, false, false, false, false]) rfl ?_
    refine TR.takeY 13 rfl rfl rfl rfl (by kernel_rfl) (by kernel_rfl) (by kernel_rfl) (EvP.r (by exact EvP.move rfl)) (l' := #[true, true, true, true, true, true, true, true, true, true, true, true, true, true, false, false, false, false, false, false, false, false, false, false, false]) rfl ?_
    refine TR.takeY 14 rfl rfl rfl rfl (by kernel_rfl) (by kernel_rfl) (by kernel_rfl) (EvP.r (by exact EvP.ix (j := (i : Int)) Tryd.runUnderlying36 Tryd.sizeOf48 rfl rfl ⟨by omega, by omega⟩)) (l' := #[true, true, true, true, true, true, true, true, true, true, true, true, true, true, true, false, false, false, false, false, false, false, false, false, false]) rfl ?_
    refine TR.takeY 15 rfl rfl rfl rfl (by kernel_rfl) (by kernel_rfl) (by kernel_rfl) (EvP.r (by exact EvP.fa rfl Tryd.runUnderlying48 rfl Tryd.sizeOf22 rfl)) (l' := #[true, true, true, true, true, true, true, true, true, true, true, true, true, true, true, true, false, false, false, false, false, false, false, false, false]) rfl ?_
    refine TR.takeY 16 rfl rfl rfl rfl (by kernel_rfl) (by kernel_rfl) (by kernel_rfl) (EvR.load rfl Tryd.isAgg22 hb1 hc1.2.1) (l' := #[true, true, true, true, true, true, true, true, true, true, true, true, true, true, true, true, true, false, false, false, false, false, false, false, false]) rfl ?_
    refine TR.takeY 17 rfl rfl rfl rfl (by kernel_rfl) (by kernel_rfl) (by kernel_rfl) (EvP.r (by exact EvP.move rfl)) (l' := #[true, true, true, true, true, true, true, true, true, true, true, true, true, true, true, true, true, true, false, false, false, false, false, false, false]) rfl ?_
    refine TR.takeY 18 rfl rfl rfl rfl (by kernel_rfl) (by kernel_rfl) (by kernel_rfl) (EvP.r (by exact EvP.move rfl)) (l' := #[true, true, true, true, true, true, true, true, true, true, true, true, true, true, true, true, true, true, true, false, false, false, false, false, false]) rfl ?_
    refine TR.takeY 19 rfl rfl rfl rfl (by kernel_rfl) (by kernel_rfl) (by kernel_rfl) (EvP.r (by exact EvP.ix (j := (i : Int)) Tryd.runUnderlying36 Tryd.sizeOf48 rfl rfl ⟨by omega, by omega⟩)) (l' := #[true, true, true, true, true, true, true, true, true, true, true, true, true, true, true, true, true, true, true, true, false, false, false, false, false]) rfl ?_
    refine TR.takeY 20 rfl rfl rfl rfl (by kernel_rfl) (by kernel_rfl) (by kernel_rfl) (EvP.r (by exact EvP.fa rfl Tryd.runUnderlying48 rfl Tryd.sizeOf22 rfl)) (l' := #[true, true, true, true, true, true, true, true, true, true, true, true, true, true, true, true, true, true, true, true, true, false, false, false, false]) rfl ?_
    refine TR.takeY 21 rfl rfl rfl rfl (by kernel_rfl) (by kernel_rfl) (by kernel_rfl) (EvR.load rfl Tryd.isAgg22 hb2 hc2.2.1) (l' := #[true, true, true, true, true, true, true, true, true, true, true, true, true, true, true, true, true, true, true, true, true, true, false, false, false]) rfl ?_
    refine TR.one (i := 22) (by kernel_rfl) ?_
    refine TRi.callG rfl rfl rfl rfl rfl rfl Tryd.call10 (fun w hs => same_spec hrx hry (by omega) hs) (l' := #[true, true, true, true, true, true, true, true, true, true, true, true, true, true, true, true, true, true, true, true, true, true, true, false, false]) rfl ?_
    rintro _ _ ⟨rfl, rfl⟩
    refine ⟨(fun _ hs => hs), ?_⟩
    refine TR.takeY 23 rfl rfl rfl rfl (by kernel_rfl) (by kernel_rfl) (by kernel_rfl) (EvP.r (by exact EvP.not rfl)) (l' := #[true, true, true, true, true, true, true, true, true, true, true, true, true, true, true, true, true, true, true, true, true, true, true, true, false]) rfl ?_
    refine TR.take 24 rfl (by kernel_rfl) (by kernel_rfl) (by kernel_rfl) (EvP.r (by exact EvP.pickF rfl rfl)) (l' := #[true, true, true, true, true, true, true, true, true, true, true, true, true, true, true, true, true, true, true, true, true, true, true, true, true]) rfl ?_
    refine TR.done (by kernel_rfl) ?_
    refine TX.thenN rfl rfl ?_
    refine TC.cfalse rfl ?_
    refine TC.skip ?_
    refine TX.blkN ?_
    refine TX.thenN rfl rfl ?_
    refine TC.region ?_
    refine TL.p (EvP.add rfl rfl (by omega)) ?_
    refine TL.p (EvP.move rfl) ?_
    refine TL.nil ?_
    refine TX.back (i + 1) (by omega) (by omega) ⟨rfl, rfl, rfl, rfl, rfl, trivial⟩ (by repeat (first | exact Le.refl _ | exact Le.nil _ | refine Le.hit ?_ | refine Le.hit1 ?_ | refine Le.hit2 ?_ | refine Le.hit3 ?_ | refine Le.hit4 ?_ | refine Le.hit5 ?_ | refine Le.hit6 ?_ | refine Le.hit7 ?_ | refine Le.hit8 ?_ | refine Le.hit9 ?_ | refine Le.hit10 ?_ | refine Le.skip ?_))
  · refine TL.nil ?_
    refine TX.thenN rfl rfl ?_
    refine TC.seq ?_
    refine TC.cfalse rfl ?_
    refine TC.exit ?_
    refine TX.thenE ?_
    refine TX.thenE ?_
    refine TX.blkH ?_
    refine TX.thenN rfl rfl ?_
    refine TC.seq ?_
    refine TC.region ?_
    refine TL.p (EvP.assign rfl) ?_
    refine TL.nil ?_
    refine TX.thenN rfl rfl ?_
    refine TC.ret ?_
    refine TX.done rfl (Res.one rfl rfl) (fun w hs => Post0.mk hs ?_ (by repeat (first | exact Le.refl _ | exact Le.nil _ | refine Le.hit ?_ | refine Le.hit1 ?_ | refine Le.hit2 ?_ | refine Le.hit3 ?_ | refine Le.hit4 ?_ | refine Le.hit5 ?_ | refine Le.hit6 ?_ | refine Le.hit7 ?_ | refine Le.hit8 ?_ | refine Le.hit9 ?_ | refine Le.hit10 ?_ | refine Le.skip ?_)))
    rfl

theorem has_spec {w0 w : World} {R : List Chunk} {v : Value} {xs : List Int} (q : Int) (he : Els (fun w => St w0 w R) v 1 (one (Value.int .i64)) 2 xs) (hsz : xs.length < 4611686018427387904) (hst : St w0 w R) : Calls Tryd.prog 22 #[v, .int .i64 q] w (Post0 w0 R fun u => u = .bool (decide (q ∈ xs))) := by
  obtain ⟨⟨a0, cap, rfl⟩, he2⟩ := id he
  refine calls_of (args := [_, _]) Tryd.func22 rfl Tryd.ntmps22 hst ?_
  refine TC.seq ?_
  refine TC.region ?_
  refine TL.p (EvP.assign rfl) ?_
  refine TL.nil ?_
  refine TX.thenN rfl rfl ?_
  refine TC.seq ?_
  refine TC.seq ?_
  refine TC.region ?_
  refine TL.p (EvP.move rfl) ?_
  refine TL.p (EvP.lenS Tryd.runUnderlying35 rfl) ?_
  refine TL.p (EvP.move rfl) ?_
  refine TL.nil ?_
  refine TX.thenN rfl rfl ?_
  refine TC.block ?_
  refine TC.loop (ι := Nat) (fun i => [(1, .int .i64 q), (7, .slice a0 xs.length cap), (8, .int .i64 xs.length), (9, .int .i64 i)]) (fun i => R) (fun i => i ≤ xs.length ∧ q ∉ xs.take i) (fun i => xs.length - i) (0) (⟨Nat.zero_le _, by simp⟩) ⟨rfl, rfl, rfl, rfl, trivial⟩ (by repeat (first | exact Le.refl _ | exact Le.nil _ | refine Le.hit ?_ | refine Le.hit1 ?_ | refine Le.hit2 ?_ | refine Le.hit3 ?_ | refine Le.hit4 ?_ | refine Le.hit5 ?_ | refine Le.hit6 ?_ | refine Le.hit7 ?_ | refine Le.hit8 ?_ | refine Le.hit9 ?_ | refine Le.hit10 ?_ | refine Le.skip ?_)) ?_
  rintro i ⟨hi, hall⟩
  change TC _ _ [(1, .int .i64 q), (7, .slice a0 xs.length cap), (8, .int .i64 xs.length), (9, .int .i64 i)] (R) _
  refine TC.seq ?_
  refine TC.region ?_
  refine TL.dec (EvP.lt rfl rfl) (fun h10 => ?_) (fun h10 => ?_)
  · refine TL.nil ?_
    refine TX.thenN rfl rfl ?_
    refine TC.seq ?_
    refine TC.ctrue rfl ?_
    refine TC.skip ?_
    refine TX.thenN rfl rfl ?_
    refine TC.seq ?_
    refine TC.block ?_
    refine TC.seq ?_
    refine TC.region ?_
    have hlt : i < xs.length := by omega
    obtain ⟨x, hx⟩ : ∃ x, xs[i]? = some x := ⟨_, List.getElem?_eq_getElem hlt⟩
    refine TL.elem (he2 i x hx) Tryd.runUnderlying35 Tryd.sizeOf2 rfl rfl (fun bE oE lE _ _ hE hcE => ?_)
    refine TL.r (EvR.load rfl Tryd.isAgg2 hE hcE.1) ?_
    refine TL.p (EvP.assign rfl) ?_
    refine TL.nil ?_
    refine TX.thenN rfl rfl ?_
    refine TC.seq ?_
    refine TC.region ?_
    refine TL.p (EvP.move rfl) ?_
    refine TL.p (EvP.move rfl) ?_
    refine TL.dec (EvP.eq rfl rfl) (fun h15 => ?_) (fun h15 => ?_)
    · refine TL.nil ?_
      refine TX.thenN rfl rfl ?_
      refine TC.ctrue rfl ?_
      refine TC.seq ?_
      refine TC.region ?_
      refine TL.p (EvP.assign rfl) ?_
      refine TL.nil ?_
      refine TX.thenN rfl rfl ?_
      refine TC.ret ?_
      refine TX.blkR ?_
      refine TX.thenR ?_
      refine TX.thenR ?_
      refine TX.blkR ?_
      refine TX.thenR ?_
      refine TX.done rfl (Res.one rfl rfl) (fun w hs => Post0.mk hs ?_ (by repeat (first | exact Le.refl _ | exact Le.nil _ | refine Le.hit ?_ | refine Le.hit1 ?_ | refine Le.hit2 ?_ | refine Le.hit3 ?_ | refine Le.hit4 ?_ | refine Le.hit5 ?_ | refine Le.hit6 ?_ | refine Le.hit7 ?_ | refine Le.hit8 ?_ | refine Le.hit9 ?_ | refine Le.hit10 ?_ | refine Le.skip ?_)))
      rw [decide_eq_true (show q ∈ xs by have := List.mem_of_getElem? hx; rwa [show x = q by omega] at this)]
    · refine TL.nil ?_
      refine TX.thenN rfl rfl ?_
      refine TC.cfalse rfl ?_
      refine TC.skip ?_
      refine TX.blkN ?_
      refine TX.thenN rfl rfl ?_
      refine TC.region ?_
      refine TL.p (EvP.add rfl rfl (by omega)) ?_
      refine TL.p (EvP.move rfl) ?_
      refine TL.nil ?_
      refine TX.back (i + 1) (⟨by omega, not_next hx (by omega) hall⟩) (by omega) ⟨rfl, rfl, rfl, rfl, trivial⟩ (by repeat (first | exact Le.refl _ | exact Le.nil _ | refine Le.hit ?_ | refine Le.hit1 ?_ | refine Le.hit2 ?_ | refine Le.hit3 ?_ | refine Le.hit4 ?_ | refine Le.hit5 ?_ | refine Le.hit6 ?_ | refine Le.hit7 ?_ | refine Le.hit8 ?_ | refine Le.hit9 ?_ | refine Le.hit10 ?_ | refine Le.skip ?_))
  · refine TL.nil ?_
    refine TX.thenN rfl rfl ?_
    refine TC.seq ?_
    refine TC.cfalse rfl ?_
    refine TC.exit ?_
    refine TX.thenE ?_
    refine TX.thenE ?_
    refine TX.blkH ?_
    refine TX.thenN rfl rfl ?_
    refine TC.seq ?_
    refine TC.region ?_
    refine TL.p (EvP.assign rfl) ?_
    refine TL.nil ?_
    refine TX.thenN rfl rfl ?_
    refine TC.ret ?_
    refine TX.done rfl (Res.one rfl rfl) (fun w hs => Post0.mk hs ?_ (by repeat (first | exact Le.refl _ | exact Le.nil _ | refine Le.hit ?_ | refine Le.hit1 ?_ | refine Le.hit2 ?_ | refine Le.hit3 ?_ | refine Le.hit4 ?_ | refine Le.hit5 ?_ | refine Le.hit6 ?_ | refine Le.hit7 ?_ | refine Le.hit8 ?_ | refine Le.hit9 ?_ | refine Le.hit10 ?_ | refine Le.skip ?_)))
    rw [List.take_of_length_le (by omega)] at hall
    rw [decide_eq_false hall]
end Go.Proofs.YtdbpandamnkpdaaDoor
