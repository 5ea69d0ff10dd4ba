/-
  The walk of the document's set: numbers, each once, rising.
-/
import Derived.Test.YtdbpandamnkpdaaDoorLq
set_option linter.unusedSimpArgs false
set_option linter.unusedVariables false
set_option maxRecDepth 4000
namespace Go.Proofs.YtdbpandamnkpdaaDoor
open Go Go.RowKit

theorem take_notin {xs : List Int} {i : Nat} {x : Int} (hn : xs.Nodup) (hx : xs[i]? = some x) : x ∉ xs.take i := by
  have hlt := (List.getElem?_eq_some_iff.1 hx).1
  have e : xs = xs.take i ++ x :: xs.drop (i + 1) := by
    rw [← (List.getElem?_eq_some_iff.1 hx).2, ← List.drop_eq_getElem_cons hlt, List.take_append_drop]
  rw [e, List.nodup_append] at hn
  exact fun h => hn.2.2 x h x (by simp) rfl
theorem dropI {xs : List Int} {i : Nat} {x : Int} (hx : xs[i]? = some x) : xs.drop i = x :: xs.drop (i + 1) := by
  have hlt := (List.getElem?_eq_some_iff.1 hx).1
  rw [← (List.getElem?_eq_some_iff.1 hx).2, ← List.drop_eq_getElem_cons hlt]
section
variable {old : List Int} {m : Nat} {x y z : Int}
theorem shift_at (hy : old[m]? = some y) : (old.take (m + 1) ++ z :: old.drop (m + 1))[m]? = some y := by
  have hlt := (List.getElem?_eq_some_iff.1 hy).1
  rw [List.getElem?_append_left (by rw [List.length_take]; omega), List.getElem?_take, if_pos (by omega), hy]
theorem shift_gt (hy : old[m]? = some y) (h : ∀ w ∈ old.drop (m + 1), x < w) (hyx : x < y) : ∀ w ∈ old.drop m, x < w := by
  rw [dropI hy]
  intro w hw
  rcases List.mem_cons.1 hw with rfl | hw
  · exact hyx
  · exact h w hw
theorem shift_fill {k : Nat} (hk : k ≤ old.length) : (old.take k ++ z :: old.drop k).set k x = old.take k ++ x :: old.drop k := by
  rw [List.set_append_right (h := by rw [List.length_take]; omega)]
  rw [List.length_take, Nat.min_eq_left hk, Nat.sub_self]
  rfl
theorem shift_set {v : Value} {C : Chunk} (hy : old[m]? = some y) (h : SlI v ((old.take (m + 1) ++ z :: old.drop (m + 1)).set (m + 1) y) C) : SlI v (old.take m ++ y :: old.drop m) C := by
  have hlt := (List.getElem?_eq_some_iff.1 hy).1
  rw [shift_fill (by omega), take_snoc hy, List.append_assoc] at h
  rw [dropI hy]
  exact h
end
section
variable {xs : List Int} {i k : Nat} {x : Int}
theorem srt_lt {l : List Int} (h : l.Nodup) : (srt l).Pairwise fun a b => a < b := by
  have h1 := srt_sorted l
  have h2 := srt_nodup h
  exact (h1.and h2).imp fun ⟨a, b⟩ => by omega
theorem shift_le (hn : xs.Nodup) (hx : xs[i]? = some x) (hk : k ≤ (srt (xs.take i)).length) (hstop : ∀ (q : Nat) (y : Int), k = q + 1 → (srt (xs.take i))[q]? = some y → y ≤ x) : ∀ y ∈ (srt (xs.take i)).take k, y < x := by
  intro y hy
  have hno := take_notin hn hx
  have hym : y ≠ x := fun e => hno (srt_mem.1 (List.mem_of_mem_take (e ▸ hy)))
  obtain ⟨j, hj⟩ := List.getElem?_of_mem hy
  have hjl := (List.getElem?_eq_some_iff.1 hj).1
  rw [List.length_take] at hjl
  rw [List.getElem?_take, if_pos (by omega)] at hj
  cases k with
  | zero => omega
  | succ q =>
    have hq : q < (srt (xs.take i)).length := by omega
    have hz : (srt (xs.take i))[q]? = some (srt (xs.take i))[q] := List.getElem?_eq_getElem hq
    have hle := hstop q _ rfl hz
    have hsort := srt_sorted (xs.take i)
    rcases Nat.lt_or_ge j q with hjq | hjq
    · have := List.pairwise_iff_getElem.1 hsort j q (by omega) hq hjq
      have e : (srt (xs.take i))[j]'(by omega) = y := by
        have := List.getElem?_eq_getElem (l := srt (xs.take i)) (i := j) (by omega)
        rw [this] at hj
        exact Option.some.inj hj
      omega
    · have : j = q := by omega
      subst this
      rw [hz] at hj
      have := Option.some.inj hj
      omega
theorem shift_end (hn : xs.Nodup) (hx : xs[i]? = some x) (hk : k ≤ (srt (xs.take i)).length) (hle : ∀ y ∈ (srt (xs.take i)).take k, y < x) (hgt : ∀ y ∈ (srt (xs.take i)).drop k, x < y) :
    srt (xs.take (i + 1)) = (srt (xs.take i)).take k ++ x :: (srt (xs.take i)).drop k := by
  have hs := srt_lt (hn.sublist (List.take_sublist i xs))
  refine srt_perm ?_ ?_
  · rw [take_snoc hx]
    have h1 : (xs.take i ++ [x]).Perm (srt (xs.take i) ++ [x]) := ((List.mergeSort_perm (xs.take i) _).symm).append_right [x]
    refine h1.trans ?_
    have h2 : (srt (xs.take i) ++ [x]) = ((srt (xs.take i)).take k ++ (srt (xs.take i)).drop k) ++ [x] := by rw [List.take_append_drop]
    rw [h2, List.append_assoc]
    exact (List.perm_append_comm (l₁ := (srt (xs.take i)).drop k) (l₂ := [x])).append_left _
  · have h3 : ((srt (xs.take i)).take k ++ (srt (xs.take i)).drop k).Pairwise fun a b => a < b := by rw [List.take_append_drop]; exact hs
    rw [List.pairwise_append] at h3 ⊢
    refine ⟨h3.1, List.pairwise_cons.2 ⟨hgt, h3.2.1⟩, ?_⟩
    intro a ha b hb
    rcases List.mem_cons.1 hb with rfl | hb
    · exact hle a ha
    · exact h3.2.2 a ha b hb
end

theorem set_spec {w0 w : World} {R : List Chunk} {v : Value} {xs : List Int} {C : Chunk} (hv : SlI v xs C) (hnd : xs.Nodup) (hsz : xs.length ≤ 4096) (hst : St w0 w (C :: R)) : Calls Tryd.prog 66 #[v] w (Post1 w0 (C :: R) fun u D => SlI u (srt xs) D) := by
  obtain ⟨a, cap, rfl, _, _⟩ := hv.len
  refine calls_of (args := [_]) Tryd.func66 rfl Tryd.ntmps66 hst ?_
  refine TC.seq ?_
  refine TC.region ?_
  refine TL.p (EvP.assign rfl) ?_
  refine TL.nil ?_
  refine TX.thenN rfl rfl ?_
  refine TC.seq ?_
  refine TC.region ?_
  refine TL.p (EvP.assign rfl) ?_
  refine TL.nil ?_
  refine TX.thenN rfl rfl ?_
  refine TC.seq ?_
  refine TC.seq ?_
  refine TC.region ?_
  refine TL.p (EvP.move rfl) ?_
  refine TL.p (EvP.lenS Tryd.runUnderlying35 rfl) ?_
  refine TL.le Le.nilC ?_
  refine TL.p (EvP.move rfl) ?_
  refine TL.nil ?_
  refine TX.thenN rfl rfl ?_
  refine TC.block ?_
  refine TC.loop (ι := Nat × Value × Chunk) (fun (i, v, Co) => [(10, .slice a xs.length cap), (11, .int .i64 xs.length), (12, .int .i64 i), (3, v)]) (fun (i, v, Co) => Co :: C :: R) (fun (i, v, Co) => i ≤ xs.length ∧ SlI v (srt (xs.take i)) Co) (fun (i, v, Co) => xs.length - i) ((0, .slice none 0 0, [])) (⟨Nat.zero_le _, by rw [List.take_zero]; unfold srt; rw [List.mergeSort_nil]; exact Sl.nil⟩) ⟨rfl, rfl, rfl, rfl, trivial⟩ (by repeat (first | exact Le.refl _ | exact Le.nil _ | refine Le.hit ?_ | refine Le.hit1 ?_ | refine Le.hit2 ?_ | refine Le.hit3 ?_ | refine Le.hit4 ?_ | refine Le.hit5 ?_ | refine Le.hit6 ?_ | refine Le.hit7 ?_ | refine Le.hit8 ?_ | refine Le.hit9 ?_ | refine Le.hit10 ?_ | refine Le.skip ?_)) ?_
  rintro ⟨i, v, Co⟩ ⟨hi, ho⟩
  change TC _ _ [(10, .slice a xs.length cap), (11, .int .i64 xs.length), (12, .int .i64 i), (3, v)] (Co :: C :: R) _
  refine TC.seq ?_
  refine TC.region ?_
  refine TL.dec (EvP.lt rfl rfl) (fun h13 => ?_) (fun h13 => ?_)
  · refine TL.nil ?_
    refine TX.thenN rfl rfl ?_
    refine TC.seq ?_
    refine TC.ctrue rfl ?_
    refine TC.skip ?_
    refine TX.thenN rfl rfl ?_
    refine TC.seq ?_
    refine TC.block ?_
    refine TC.seq ?_
    refine TC.region ?_
    have hlt : i < xs.length := by omega
    obtain ⟨x, hx⟩ : ∃ x, xs[i]? = some x := ⟨_, List.getElem?_eq_getElem hlt⟩
    have hxn := take_notin hnd hx
    have hol : (srt (xs.take i)).length = i := by rw [srt_len, List.length_take]; omega
    obtain ⟨q1, q2, hq, _, _⟩ := ho.len
    rw [hol] at hq
    subst hq
    refine TL.elem (hv.el encI_ok (j := i) (x := x) hx (by simp)) Tryd.runUnderlying35 Tryd.sizeOf2 rfl rfl (fun bE oE lE _ _ hE hcE => ?_)
    refine TL.r (EvR.load rfl Tryd.isAgg2 hE hcE.1) ?_
    refine TL.p (EvP.assign rfl) ?_
    refine TL.nil ?_
    refine TX.thenN rfl rfl ?_
    refine TC.seq ?_
    refine TC.region ?_
    refine TL.p (EvP.assign rfl) ?_
    refine TL.nil ?_
    refine TX.thenN rfl rfl ?_
    refine TC.seq ?_
    refine TC.seq ?_
    refine TC.region ?_
    refine TL.p (EvP.move rfl) ?_
    refine TL.p (EvP.lenS Tryd.runUnderlying35 rfl) ?_
    refine TL.p (EvP.move rfl) ?_
    refine TL.nil ?_
    refine TX.thenN rfl rfl ?_
    refine TC.block ?_
    refine TC.loop (ι := Nat) (fun j => [(16, .slice q1 i q2), (17, .int .i64 i), (18, .int .i64 j), (5, .int .i64 x), (6, .bool false), (3, .slice q1 i q2), (10, .slice a xs.length cap), (11, .int .i64 xs.length), (12, .int .i64 i)]) (fun j => Co :: C :: R) (fun j => j ≤ i) (fun j => i - j) (0) (Nat.zero_le _) ⟨rfl, rfl, rfl, rfl, rfl, rfl, rfl, rfl, rfl, trivial⟩ (by repeat (first | exact Le.refl _ | exact Le.nil _ | refine Le.hit ?_ | refine Le.hit1 ?_ | refine Le.hit2 ?_ | refine Le.hit3 ?_ | refine Le.hit4 ?_ | refine Le.hit5 ?_ | refine Le.hit6 ?_ | refine Le.hit7 ?_ | refine Le.hit8 ?_ | refine Le.hit9 ?_ | refine Le.hit10 ?_ | refine Le.skip ?_)) ?_
    rintro j hj
    change TC _ _ [(16, .slice q1 i q2), (17, .int .i64 i), (18, .int .i64 j), (5, .int .i64 x), (6, .bool false), (3, .slice q1 i q2), (10, .slice a xs.length cap), (11, .int .i64 xs.length), (12, .int .i64 i)] (Co :: C :: R) _
    refine TC.seq ?_
    refine TC.region ?_
    refine TL.dec (EvP.lt rfl rfl) (fun h19 => ?_) (fun h19 => ?_)
    · refine TL.nil ?_
      refine TX.thenN rfl rfl ?_
      refine TC.seq ?_
      refine TC.ctrue rfl ?_
      refine TC.skip ?_
      refine TX.thenN rfl rfl ?_
      refine TC.seq ?_
      refine TC.block ?_
      refine TC.seq ?_
      refine TC.region ?_
      have hjl : j < (srt (xs.take i)).length := by omega
      obtain ⟨y, hy⟩ : ∃ y, (srt (xs.take i))[j]? = some y := ⟨_, List.getElem?_eq_getElem hjl⟩
      have hyx : ¬y = x := fun e => hxn (srt_mem.1 (e ▸ List.mem_of_getElem? hy))
      refine TL.elem (ho.el encI_ok (j := j) (x := y) hy (by simp)) Tryd.runUnderlying35 Tryd.sizeOf2 rfl rfl (fun bE2 oE2 lE2 _ _ hE2 hcE2 => ?_)
      refine TL.r (EvR.load rfl Tryd.isAgg2 hE2 hcE2.1) ?_
      refine TL.p (EvP.assign rfl) ?_
      refine TL.nil ?_
      refine TX.thenN rfl rfl ?_
      refine TC.region ?_
      refine TL.p (EvP.move rfl) ?_
      refine TL.p (EvP.move rfl) ?_
      refine TL.gY rfl rfl rfl ?_
      refine TL.p (EvP.move rfl) ?_
      refine TL.gY rfl rfl rfl ?_
      refine TL.p (EvP.move rfl) ?_
      refine TL.gY rfl rfl rfl ?_
      refine TL.p (EvP.isF (EvP.eq rfl rfl) (hyx)) ?_
      refine TL.p (EvP.pickF rfl rfl) ?_
      refine TL.p (EvP.assign rfl) ?_
      refine TL.nil ?_
      refine TX.blkN ?_
      refine TX.thenN rfl rfl ?_
      refine TC.region ?_
      refine TL.p (EvP.add rfl rfl (by omega)) ?_
      refine TL.p (EvP.move rfl) ?_
      refine TL.nil ?_
      refine TX.back (j + 1) (by omega) (by omega) ⟨rfl, rfl, rfl, rfl, rfl, rfl, rfl, rfl, rfl, trivial⟩ (by repeat (first | exact Le.refl _ | exact Le.nil _ | refine Le.hit ?_ | refine Le.hit1 ?_ | refine Le.hit2 ?_ | refine Le.hit3 ?_ | refine Le.hit4 ?_ | refine Le.hit5 ?_ | refine Le.hit6 ?_ | refine Le.hit7 ?_ | refine Le.hit8 ?_ | refine Le.hit9 ?_ | refine Le.hit10 ?_ | refine Le.skip ?_))
    · refine TL.nil ?_
      refine TX.thenN rfl rfl ?_
      refine TC.seq ?_
      refine TC.cfalse rfl ?_
      refine TC.exit ?_
      refine TX.thenE ?_
      refine TX.thenE ?_
      refine TX.blkH ?_
      refine TX.thenN rfl rfl ?_
      refine TC.seq ?_
      refine TC.seq ?_
      refine TC.region ?_
      refine TL.p (EvP.move rfl) ?_
      refine TL.nil ?_
      refine TX.thenN rfl rfl ?_
      refine TC.cfalse rfl ?_
      refine TC.skip ?_
      refine TX.thenN rfl rfl ?_
      refine TC.seq ?_
      refine TC.region ?_
      refine TL.p (EvP.move rfl) ?_
      refine TL.p (EvP.lenS Tryd.runUnderlying35 rfl) ?_
      refine TL.p (EvP.assign rfl) ?_
      refine TL.nil ?_
      refine TX.thenN rfl rfl ?_
      refine TC.seq ?_
      refine TC.region ?_
      refine TL.p (EvP.move rfl) ?_
      refine TL.p (EvP.move rfl) ?_
      refine TL.lit1 (x) rfl elI Tryd.underlying35 (by decide) (by decide) encI_ok rfl (fun u1 D2 hD2 => ?_)
      refine TL.le (Le.hit1 (Le.refl _)) ?_
      refine TL.append rfl rfl elI Tryd.underlying35 encI_ok ho (SrcR.sl Tryd.underlying35 encI_ok hD2 (by simp)) (by rw [hol]; simp only [List.length_singleton]; omega) (by decide) (fun v3 C4 hC4 => ?_)
      obtain ⟨q3, q4, hq2, _, _⟩ := hC4.len
      rw [show (srt (xs.take i) ++ [x]).length = i + 1 from by simp [hol]] at hq2
      subst hq2
      refine TL.p (EvP.assign rfl) ?_
      refine TL.nil ?_
      refine TX.thenN rfl rfl ?_
      refine TC.seq ?_
      refine TC.block ?_
      refine TC.loop (ι := Nat × Chunk) (fun (k, Cs) => [(9, .int .i64 k), (3, .slice q3 (i + 1) q4), (5, .int .i64 x), (10, .slice a xs.length cap), (11, .int .i64 xs.length), (12, .int .i64 i)]) (fun (k, Cs) => Cs :: C :: R) (fun (k, Cs) => k ≤ i ∧ (∀ y ∈ (srt (xs.take i)).drop k, x < y) ∧ ∃ z, SlI (.slice q3 (i + 1) q4) ((srt (xs.take i)).take k ++ z :: (srt (xs.take i)).drop k) Cs) (fun (k, Cs) => k) ((i, C4)) (⟨Nat.le_refl _, by rw [List.drop_eq_nil_of_le (by omega)]; simp, x, by rw [List.take_of_length_le (by omega), List.drop_eq_nil_of_le (by omega)]; exact hC4⟩) ⟨rfl, rfl, rfl, rfl, rfl, rfl, trivial⟩ (by repeat (first | exact Le.refl _ | exact Le.nil _ | refine Le.hit ?_ | refine Le.hit1 ?_ | refine Le.hit2 ?_ | refine Le.hit3 ?_ | refine Le.hit4 ?_ | refine Le.hit5 ?_ | refine Le.hit6 ?_ | refine Le.hit7 ?_ | refine Le.hit8 ?_ | refine Le.hit9 ?_ | refine Le.hit10 ?_ | refine Le.skip ?_)) ?_
      rintro ⟨k, Cs⟩ ⟨hk, hgt, z, hcon⟩
      change TC _ _ [(9, .int .i64 k), (3, .slice q3 (i + 1) q4), (5, .int .i64 x), (10, .slice a xs.length cap), (11, .int .i64 xs.length), (12, .int .i64 i)] (Cs :: C :: R) _
      refine TC.seq ?_
      refine TC.seq ?_
      refine TC.region ?_
      refine TL.p (EvP.move rfl) ?_
      refine TL.dec (EvP.gt rfl rfl) (fun h37 => ?_) (fun h37 => ?_)
      · refine TL.p (EvP.move rfl) ?_
        refine TL.gY rfl rfl rfl ?_
        obtain ⟨m, rfl⟩ : ∃ m, k = m + 1 := ⟨k - 1, by omega⟩
        have hm : m < (srt (xs.take i)).length := by omega
        obtain ⟨y, hy⟩ : ∃ y, (srt (xs.take i))[m]? = some y := ⟨_, List.getElem?_eq_getElem hm⟩
        have hym := shift_at (z := z) hy
        refine TL.p (EvP.move rfl) ?_
        refine TL.gY rfl rfl rfl ?_
        refine TL.p (EvP.move rfl) ?_
        refine TL.gY rfl rfl rfl ?_
        refine TL.p (EvP.isV (u := .int .i64 (m : Int)) (EvP.sub rfl rfl (by omega)) (by congr 1; omega)) ?_
        refine TL.gY rfl rfl rfl ?_
        refine TL.elem (hcon.el encI_ok (j := m) (x := y) hym (by simp)) Tryd.runUnderlying35 Tryd.sizeOf2 rfl rfl (fun bE3 oE3 lE3 _ _ hE3 hcE3 => ?_)
        refine TL.gY rfl rfl rfl ?_
        refine TL.r (EvR.load rfl Tryd.isAgg2 hE3 hcE3.1) ?_
        refine TL.gY rfl rfl rfl ?_
        refine TL.p (EvP.move rfl) ?_
        refine TL.gY rfl rfl rfl ?_
        refine TL.dec (EvP.gt rfl rfl) (fun h45 => ?_) (fun h45 => ?_)
        · refine TL.p (EvP.pickT rfl rfl) ?_
          refine TL.nil ?_
          refine TX.thenN rfl rfl ?_
          refine TC.ctrue rfl ?_
          refine TC.skip ?_
          refine TX.thenN rfl rfl ?_
          refine TC.block ?_
          refine TC.seq ?_
          refine TC.region ?_
          refine TL.p (EvP.move rfl) ?_
          refine TL.p (EvP.move rfl) ?_
          refine TL.p (EvP.move rfl) ?_
          refine TL.p (EvP.move rfl) ?_
          refine TL.p (EvP.isV (u := .int .i64 (m : Int)) (EvP.sub rfl rfl (by omega)) (by congr 1; omega)) ?_
          refine TL.elem (hcon.el encI_ok (j := m) (x := y) hym (by simp)) Tryd.runUnderlying35 Tryd.sizeOf2 rfl rfl (fun bE4 oE4 lE4 _ _ hE4 hcE4 => ?_)
          refine TL.r (EvR.load rfl Tryd.isAgg2 hE4 hcE4.1) ?_
          refine TL.elemW hcon encI_ok (j := m + 1) (by simp only [List.length_append, List.length_take, List.length_cons, List.length_drop]; omega) Tryd.runUnderlying35 Tryd.sizeOf2 rfl rfl (fun bW oW lW hCW hWW => ?_)
          subst hCW
          obtain ⟨l7, hS7, hcon7⟩ := hWW y
          refine TL.u (EvU.store rfl rfl Tryd.sizeOf2 rfl rfl rfl rfl (by repeat (first | exact Has.hd | refine Has.tlb ?_ | refine Has.tlc ?_)) hS7 (by repeat (first | exact Upd.hd | apply Upd.tlb | apply Upd.tlc))) ?_
          refine TL.nil ?_
          refine TX.thenN rfl rfl ?_
          refine TC.region ?_
          refine TL.p (EvP.move rfl) ?_
          refine TL.p (EvP.isV (u := .int .i64 (m : Int)) (EvP.sub rfl rfl (by omega)) (by congr 1; omega)) ?_
          refine TL.p (EvP.assign rfl) ?_
          refine TL.nil ?_
          refine TX.blkN ?_
          refine TX.back ((m, [(bW, .cells l7.toArray 2 (0, 0))])) (⟨by omega, shift_gt hy hgt (by simp_all), y, shift_set hy hcon7⟩) (by simp only; omega) ⟨rfl, rfl, rfl, rfl, rfl, rfl, trivial⟩ (by repeat (first | exact Le.refl _ | exact Le.nil _ | refine Le.hit ?_ | refine Le.hit1 ?_ | refine Le.hit2 ?_ | refine Le.hit3 ?_ | refine Le.hit4 ?_ | refine Le.hit5 ?_ | refine Le.hit6 ?_ | refine Le.hit7 ?_ | refine Le.hit8 ?_ | refine Le.hit9 ?_ | refine Le.hit10 ?_ | refine Le.skip ?_))
        · refine TL.p (EvP.pickT rfl rfl) ?_
          refine TL.nil ?_
          refine TX.thenN rfl rfl ?_
          refine TC.cfalse rfl ?_
          refine TC.exit ?_
          refine TX.thenE ?_
          refine TX.thenE ?_
          refine TX.blkH ?_
          refine TX.thenN rfl rfl ?_
          refine TC.region ?_
          have hstop : ∀ (q : Nat) (y : Int), (m + 1) = q + 1 → (srt (xs.take i))[q]? = some y → y ≤ x := by intro q y e h; (have e2 : q = m := by omega); subst e2; rw [hy] at h; cases h; omega
          refine TL.p (EvP.move rfl) ?_
          refine TL.p (EvP.move rfl) ?_
          refine TL.p (EvP.move rfl) ?_
          refine TL.elemW hcon encI_ok (j := (m + 1)) (by simp only [List.length_append, List.length_take, List.length_cons, List.length_drop]; omega) Tryd.runUnderlying35 Tryd.sizeOf2 rfl rfl (fun bW oW lW hCW hWW => ?_)
          subst hCW
          obtain ⟨l8, hS8, hcon8⟩ := hWW x
          refine TL.u (EvU.store rfl rfl Tryd.sizeOf2 rfl rfl rfl rfl (by repeat (first | exact Has.hd | refine Has.tlb ?_ | refine Has.tlc ?_)) hS8 (by repeat (first | exact Upd.hd | apply Upd.tlb | apply Upd.tlc))) ?_
          refine TL.nil ?_
          refine TX.blkN ?_
          refine TX.thenN rfl rfl ?_
          refine TC.region ?_
          refine TL.p (EvP.add rfl rfl (by omega)) ?_
          refine TL.p (EvP.move rfl) ?_
          refine TL.nil ?_
          have hle : ∀ y ∈ (srt (xs.take i)).take (m + 1), y < x := shift_le hnd hx (by omega) hstop
          refine TX.back ((i + 1, .slice q3 (i + 1) q4, [(bW, .cells l8.toArray 2 (0, 0))])) (⟨by omega, by rw [shift_end hnd hx (by omega) hle hgt]; rw [shift_fill (by omega)] at hcon8; exact hcon8⟩) (by simp only; omega) ⟨rfl, rfl, rfl, rfl, trivial⟩ (by repeat (first | exact Le.refl _ | exact Le.nil _ | refine Le.hit ?_ | refine Le.hit1 ?_ | refine Le.hit2 ?_ | refine Le.hit3 ?_ | refine Le.hit4 ?_ | refine Le.hit5 ?_ | refine Le.hit6 ?_ | refine Le.hit7 ?_ | refine Le.hit8 ?_ | refine Le.hit9 ?_ | refine Le.hit10 ?_ | refine Le.skip ?_))
      · refine TL.p (EvP.move rfl) ?_
        refine TL.gN rfl rfl rfl ?_
        refine TL.gN rfl rfl rfl ?_
        refine TL.gN rfl rfl rfl ?_
        refine TL.gN rfl rfl rfl ?_
        refine TL.gN rfl rfl rfl ?_
        refine TL.gN rfl rfl rfl ?_
        refine TL.gN rfl rfl rfl ?_
        refine TL.p (EvP.pickF rfl rfl) ?_
        refine TL.nil ?_
        refine TX.thenN rfl rfl ?_
        refine TC.cfalse rfl ?_
        refine TC.exit ?_
        refine TX.thenE ?_
        refine TX.thenE ?_
        refine TX.blkH ?_
        refine TX.thenN rfl rfl ?_
        refine TC.region ?_
        have hstop : ∀ (q : Nat) (y : Int), k = q + 1 → (srt (xs.take i))[q]? = some y → y ≤ x := by intro q y e h; omega
        refine TL.p (EvP.move rfl) ?_
        refine TL.p (EvP.move rfl) ?_
        refine TL.p (EvP.move rfl) ?_
        refine TL.elemW hcon encI_ok (j := k) (by simp only [List.length_append, List.length_take, List.length_cons, List.length_drop]; omega) Tryd.runUnderlying35 Tryd.sizeOf2 rfl rfl (fun bW oW lW hCW hWW => ?_)
        subst hCW
        obtain ⟨l8, hS8, hcon8⟩ := hWW x
        refine TL.u (EvU.store rfl rfl Tryd.sizeOf2 rfl rfl rfl rfl (by repeat (first | exact Has.hd | refine Has.tlb ?_ | refine Has.tlc ?_)) hS8 (by repeat (first | exact Upd.hd | apply Upd.tlb | apply Upd.tlc))) ?_
        refine TL.nil ?_
        refine TX.blkN ?_
        refine TX.thenN rfl rfl ?_
        refine TC.region ?_
        refine TL.p (EvP.add rfl rfl (by omega)) ?_
        refine TL.p (EvP.move rfl) ?_
        refine TL.nil ?_
        have hle : ∀ y ∈ (srt (xs.take i)).take k, y < x := shift_le hnd hx (by omega) hstop
        refine TX.back ((i + 1, .slice q3 (i + 1) q4, [(bW, .cells l8.toArray 2 (0, 0))])) (⟨by omega, by rw [shift_end hnd hx (by omega) hle hgt]; rw [shift_fill (by omega)] at hcon8; exact hcon8⟩) (by simp only; omega) ⟨rfl, rfl, rfl, rfl, trivial⟩ (by repeat (first | exact Le.refl _ | exact Le.nil _ | refine Le.hit ?_ | refine Le.hit1 ?_ | refine Le.hit2 ?_ | refine Le.hit3 ?_ | refine Le.hit4 ?_ | refine Le.hit5 ?_ | refine Le.hit6 ?_ | refine Le.hit7 ?_ | refine Le.hit8 ?_ | refine Le.hit9 ?_ | refine Le.hit10 ?_ | refine Le.skip ?_))
  · refine TL.nil ?_
    refine TX.thenN rfl rfl ?_
    refine TC.seq ?_
    refine TC.cfalse rfl ?_
    refine TC.exit ?_
    refine TX.thenE ?_
    refine TX.thenE ?_
    refine TX.blkH ?_
    refine TX.thenN rfl rfl ?_
    refine TC.seq ?_
    refine TC.region ?_
    refine TL.p (EvP.move rfl) ?_
    refine TL.p (EvP.assign rfl) ?_
    refine TL.nil ?_
    refine TX.thenN rfl rfl ?_
    refine TC.ret ?_
    have hi3 : i = xs.length := by omega
    subst hi3
    rw [List.take_length] at ho
    refine TX.done rfl (Res.one rfl rfl) (fun w hs => Post1.mk (C := Co) hs ho (by repeat (first | exact Le.refl _ | exact Le.nil _ | refine Le.hit ?_ | refine Le.hit1 ?_ | refine Le.hit2 ?_ | refine Le.hit3 ?_ | refine Le.hit4 ?_ | refine Le.hit5 ?_ | refine Le.hit6 ?_ | refine Le.hit7 ?_ | refine Le.hit8 ?_ | refine Le.hit9 ?_ | refine Le.hit10 ?_ | refine Le.skip ?_)))
end Go.Proofs.YtdbpandamnkpdaaDoor
