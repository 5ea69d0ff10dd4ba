/-
  Right texts: the program and the document say the same.
-/
import Derived.Test.YtdbpandamnkpdaaDoorBq
import Derived.Test.YtdbpandamnkpdaaDoorNu
import Derived.Test.YtdbpandamnkpdaaDoorVs
import Derived.Test.YtdbpandamnkpdaaDoorLt
set_option linter.unusedSimpArgs false
set_option linter.unusedVariables false
set_option maxRecDepth 100000
namespace Go.Proofs.YtdbpandamnkpdaaDoor
open Go Go.RowKit Go.Lib

/-- The library's two tables, as they were laid. -/
def Tabs (w : World) : Prop := Utf8Tabs (Tryd.dec_ren.g 3) (Tryd.dec_ren.g 4) w
def okA (s : Str) : Bool := decide (s.length ≤ 255) && validD s
theorem dec_call {w0 w : World} {R : List Chunk} (hT : Tabs w0) (s : Str) (hne : s ≠ []) (hst : St w0 w R) : Calls Tryd.prog 73 #[sv s] w (Post0 w0 R fun v => v = .tuple #[.int .i32 (decodeL s).1, .int .i64 (decodeL s).2]) := by
  have h := Any.utf8_DecodeRuneInString Tryd.dec ⟨s.toArray⟩ w (Utf8Tabs_below hT hst.base)
  have e : decodeGo ⟨s.toArray⟩ = decodeL s := by
    unfold decodeGo
    rw [if_neg (by show ¬ s.toArray.size = 0; simpa using hne)]
    rfl
  rw [e] at h
  refine Calls.mono h ?_
  rintro e w' ⟨rfl, hb⟩
  exact ⟨_, [], rfl, ⟨rfl, rfl⟩, hst.below hb⟩
theorem spell_step {s : Str} {pos : Nat} (hne : s.drop pos ≠ []) (hv : validD (s.drop pos) = validD s) (h : ¬ ((decodeL (s.drop pos)).1 = 65533 ∧ (decodeL (s.drop pos)).2 = 1)) : validD (s.drop (pos + (decodeL (s.drop pos)).2)) = validD s := by
  rw [← hv, validD_step _ hne, if_neg h, List.drop_drop]


theorem rr_start {l : Str} {m : Nat} {x : Nat} (h : bt l 0 = x) : Value.int .i64 ((x : Int) % (m : Int)) = Value.int .i64 ((rr l m 1 : Nat) : Int) := by
  have : rr l m 1 = bt l 0 % m := rfl
  rw [this, h]; simp
theorem rr_step {l : Str} {m k d : Nat} (hk : 1 ≤ k) (h : bt l k = d) : Value.int .i64 (((rr l m k : Nat) : Int) * 64 + (d : Int) % 64) = Value.int .i64 ((rr l m (k + 1) : Nat) : Int) := by
  rw [rr_next hk, h]; simp
theorem all_next {l : Str} {k d : Nat} (h : ∀ j, 1 ≤ j → j < k → j < l.length ∧ cont (bt l j)) (hk : k < l.length) (hb : bt l k = d) (hd : cont d) : ∀ j, 1 ≤ j → j < k + 1 → j < l.length ∧ cont (bt l j) := by
  intro j h1 h2
  by_cases e : j = k
  · subst e; rw [hb]; exact ⟨hk, hd⟩
  · exact h j h1 (by omega)
section
variable {l s : Str} {i : Nat}
theorem vd_bad1 (hb : lead 1 (bt l 0)) (hall : ∀ j, 1 ≤ j → j < 2 → j < l.length ∧ cont (bt l j)) (h : rr l 32 2 < 128 ∨ 1114111 < rr l 32 2 ∨ (55296 ≤ rr l 32 2 ∧ rr l 32 2 < 57344)) : validD l = false := (vd_full hb hall).1 h
theorem vd_bad2 (hb : lead 2 (bt l 0)) (hall : ∀ j, 1 ≤ j → j < 3 → j < l.length ∧ cont (bt l j)) (h : rr l 16 3 < 2048 ∨ 1114111 < rr l 16 3 ∨ (55296 ≤ rr l 16 3 ∧ rr l 16 3 < 57344)) : validD l = false := (vd_full hb hall).1 h
theorem vd_bad3 (hb : lead 3 (bt l 0)) (hall : ∀ j, 1 ≤ j → j < 4 → j < l.length ∧ cont (bt l j)) (h : rr l 8 4 < 65536 ∨ 1114111 < rr l 8 4 ∨ (55296 ≤ rr l 8 4 ∧ rr l 8 4 < 57344)) : validD l = false := (vd_full hb hall).1 h
theorem vd_next1 (hb : lead 1 (bt (s.drop i) 0)) (hall : ∀ j, 1 ≤ j → j < 2 → j < (s.drop i).length ∧ cont (bt (s.drop i) j)) (h : ¬ (rr (s.drop i) 32 2 < 128 ∨ 1114111 < rr (s.drop i) 32 2 ∨ (55296 ≤ rr (s.drop i) 32 2 ∧ rr (s.drop i) 32 2 < 57344))) : validD (s.drop (i + 1 + 1)) = validD (s.drop i) := by
  rw [(vd_full hb hall).2 h, List.drop_drop]
theorem vd_next2 (hb : lead 2 (bt (s.drop i) 0)) (hall : ∀ j, 1 ≤ j → j < 3 → j < (s.drop i).length ∧ cont (bt (s.drop i) j)) (h : ¬ (rr (s.drop i) 16 3 < 2048 ∨ 1114111 < rr (s.drop i) 16 3 ∨ (55296 ≤ rr (s.drop i) 16 3 ∧ rr (s.drop i) 16 3 < 57344))) : validD (s.drop (i + 2 + 1)) = validD (s.drop i) := by
  rw [(vd_full hb hall).2 h, List.drop_drop]
theorem vd_next3 (hb : lead 3 (bt (s.drop i) 0)) (hall : ∀ j, 1 ≤ j → j < 4 → j < (s.drop i).length ∧ cont (bt (s.drop i) j)) (h : ¬ (rr (s.drop i) 8 4 < 65536 ∨ 1114111 < rr (s.drop i) 8 4 ∨ (55296 ≤ rr (s.drop i) 8 4 ∧ rr (s.drop i) 8 4 < 57344))) : validD (s.drop (i + 3 + 1)) = validD (s.drop i) := by
  rw [(vd_full hb hall).2 h, List.drop_drop]
end
theorem utf8_spec {w0 w : World} {R : List Chunk} (s : Str) (hsz : s.length ≤ 4611686018427387904) (hst : St w0 w R) : Calls Tryd.prog 68 #[sv s] w (Post0 w0 R fun v => v = .bool (validD s)) := by
  refine calls_of (args := [_]) Tryd.func68 rfl Tryd.ntmps68 hst ?_
  refine TC.seq ?_
  refine TC.region ?_
  refine TL.p (EvP.assign rfl) ?_
  refine TL.nil ?_
  refine TX.thenN rfl rfl ?_
  refine TC.seq ?_
  refine TC.seq ?_
  refine TC.region ?_
  refine TL.p (EvP.assign rfl) ?_
  refine TL.nil ?_
  refine TX.thenN rfl rfl ?_
  refine TC.block ?_
  refine TC.loop (ι := Nat) (fun i => [(0, sv s), (3, .int .i64 i)]) (fun i => R) (fun i => i ≤ s.length ∧ validD (s.drop i) = validD s) (fun i => s.length - i) (0) (⟨Nat.zero_le _, rfl⟩) ⟨rfl, rfl, trivial⟩ (by repeat (first | exact Le.refl _ | exact Le.nil _ | refine Le.hit ?_ | refine Le.hit1 ?_ | refine Le.hit2 ?_ | refine Le.hit3 ?_ | refine Le.hit4 ?_ | refine Le.hit5 ?_ | refine Le.hit6 ?_ | refine Le.hit7 ?_ | refine Le.hit8 ?_ | refine Le.hit9 ?_ | refine Le.hit10 ?_ | refine Le.skip ?_)) ?_
  rintro i ⟨hi, hv⟩
  change TC _ _ [(0, sv s), (3, .int .i64 i)] (R) _
  refine TC.seq ?_
  refine TC.seq ?_
  refine TC.region ?_
  refine TL.p (EvP.move rfl) ?_
  refine TL.p (EvP.move rfl) ?_
  refine TL.p (EvP.lenL Tryd.runUnderlying9 rfl) ?_
  refine TL.dec (EvP.lt rfl rfl) (fun h12 => ?_) (fun h12 => ?_)
  · refine TL.nil ?_
    refine TX.thenN rfl rfl ?_
    refine TC.ctrue rfl ?_
    refine TC.skip ?_
    refine TX.thenN rfl rfl ?_
    refine TC.block ?_
    refine TC.seq ?_
    refine TC.region ?_
    refine TL.p (EvP.move rfl) ?_
    refine TL.p (EvP.move rfl) ?_
    have hlt : i < s.length := by omega
    obtain ⟨c, hc⟩ : ∃ c, s[i]? = some c := ⟨_, List.getElem?_eq_getElem hlt⟩
    have hc256 := c.toNat_lt
    have hb0 : bt (s.drop i) 0 = c.toNat := bt_drop hc
    have hne : s.drop i ≠ [] := by rw [ne_eq, List.drop_eq_nil_iff]; omega
    refine TL.p (EvP.idxS Tryd.runUnderlying9 rfl rfl (by omega) (c := c) (by simpa using hc)) ?_
    refine TL.p (EvP.conv64 rfl (by omega) Tryd.runUnderlying5 Tryd.runUnderlying3) ?_
    refine TL.p (EvP.assign rfl) ?_
    refine TL.nil ?_
    refine TX.thenN rfl rfl ?_
    refine TC.seq ?_
    refine TC.region ?_
    refine TL.p (EvP.assign rfl) ?_
    refine TL.nil ?_
    refine TX.thenN rfl rfl ?_
    refine TC.seq ?_
    refine TC.region ?_
    refine TL.p (EvP.assign rfl) ?_
    refine TL.nil ?_
    refine TX.thenN rfl rfl ?_
    refine TC.seq ?_
    refine TC.region ?_
    refine TL.p (EvP.assign rfl) ?_
    refine TL.nil ?_
    refine TX.thenN rfl rfl ?_
    refine TC.seq ?_
    refine TC.block ?_
    refine TC.seq ?_
    refine TC.region ?_
    refine TL.p (EvP.move rfl) ?_
    refine TL.dec (EvP.lt rfl rfl) (fun h19 => ?_) (fun h19 => ?_)
    · refine TL.p (EvP.assign rfl) ?_
      refine TL.nil ?_
      refine TX.thenN rfl rfl ?_
      refine TC.ctrue rfl ?_
      refine TC.seq ?_
      refine TC.region ?_
      refine TL.p (EvP.move rfl) ?_
      refine TL.p (EvP.add rfl rfl (by omega)) ?_
      refine TL.p (EvP.assign rfl) ?_
      refine TL.nil ?_
      refine TX.thenN rfl rfl ?_
      refine TC.exit ?_
      refine TX.blkM rfl ?_
      refine TX.thenE ?_
      refine TX.blkH ?_
      refine TX.back (i + 1) (⟨by omega, by rw [← vd_ascii hc (by omega)]; exact hv⟩) (by omega) ⟨rfl, rfl, trivial⟩ (by repeat (first | exact Le.refl _ | exact Le.nil _ | refine Le.hit ?_ | refine Le.hit1 ?_ | refine Le.hit2 ?_ | refine Le.hit3 ?_ | refine Le.hit4 ?_ | refine Le.hit5 ?_ | refine Le.hit6 ?_ | refine Le.hit7 ?_ | refine Le.hit8 ?_ | refine Le.hit9 ?_ | refine Le.hit10 ?_ | refine Le.skip ?_))
    · refine TL.p (EvP.assign rfl) ?_
      refine TL.nil ?_
      refine TX.thenN rfl rfl ?_
      refine TC.cfalse rfl ?_
      refine TC.seq ?_
      refine TC.region ?_
      refine TL.p (EvP.move rfl) ?_
      refine TL.dec (EvP.ge rfl rfl) (fun h24 => ?_) (fun h24 => ?_)
      · refine TL.p (EvP.move rfl) ?_
        refine TL.gY rfl rfl rfl ?_
        refine TL.p (EvP.move rfl) ?_
        refine TL.gY rfl rfl rfl ?_
        refine TL.dec (EvP.lt rfl rfl) (fun h27 => ?_) (fun h27 => ?_)
        · refine TL.p (EvP.pickT rfl rfl) ?_
          refine TL.p (EvP.assign rfl) ?_
          refine TL.nil ?_
          refine TX.thenN rfl rfl ?_
          refine TC.ctrue rfl ?_
          refine TC.seq ?_
          refine TC.region ?_
          refine TL.p (EvP.assign rfl) ?_
          refine TL.nil ?_
          refine TX.thenN rfl rfl ?_
          refine TC.seq ?_
          refine TC.region ?_
          refine TL.p (EvP.assign rfl) ?_
          refine TL.nil ?_
          refine TX.thenN rfl rfl ?_
          refine TC.region ?_
          refine TL.p (EvP.move rfl) ?_
          refine TL.p (EvP.isV (EvP.bit (.inl rfl) rfl rfl (and31 (by omega) (by omega))) (rr_start (m := 32) hb0)) ?_
          refine TL.p (EvP.assign rfl) ?_
          refine TL.nil ?_
          refine TX.blkN ?_
          refine TX.thenN rfl rfl ?_
          refine TC.seq ?_
          refine TC.seq ?_
          refine TC.region ?_
          refine TL.p (EvP.assign rfl) ?_
          refine TL.nil ?_
          refine TX.thenN rfl rfl ?_
          refine TC.block ?_
          refine TC.loop (ι := Nat) (fun k => [(0, sv s), (3, .int .i64 i), (4, .int .i64 c.toNat), (5, .int .i64 1), (6, .int .i64 128), (7, .int .i64 (rr (s.drop i) 32 k : Nat)), (8, .int .i64 k)]) (fun k => R) (fun k => 1 ≤ k ∧ k ≤ 2 ∧ ∀ j, 1 ≤ j → j < k → j < (s.drop i).length ∧ cont (bt (s.drop i) j)) (fun k => 2 - k) (1) (⟨by omega, by omega, fun j h1 h2 => absurd h2 (by omega)⟩) ⟨rfl, rfl, rfl, rfl, rfl, rfl, rfl, trivial⟩ (by repeat (first | exact Le.refl _ | exact Le.nil _ | refine Le.hit ?_ | refine Le.hit1 ?_ | refine Le.hit2 ?_ | refine Le.hit3 ?_ | refine Le.hit4 ?_ | refine Le.hit5 ?_ | refine Le.hit6 ?_ | refine Le.hit7 ?_ | refine Le.hit8 ?_ | refine Le.hit9 ?_ | refine Le.hit10 ?_ | refine Le.skip ?_)) ?_
          rintro k ⟨hk1, hk2, hall⟩
          change TC _ _ [(0, sv s), (3, .int .i64 i), (4, .int .i64 c.toNat), (5, .int .i64 1), (6, .int .i64 128), (7, .int .i64 (rr (s.drop i) 32 k : Nat)), (8, .int .i64 k)] (R) _
          have hrr := rr_lt (l := s.drop i) (m := 32) (k := k) (by omega) (by omega) (by omega)
          have hdl : (s.drop i).length = s.length - i := List.length_drop
          have hld : lead 1 (bt (s.drop i) 0) := by unfold lead; omega
          refine TC.seq ?_
          refine TC.seq ?_
          refine TC.region ?_
          refine TL.p (EvP.move rfl) ?_
          refine TL.p (EvP.move rfl) ?_
          refine TL.dec (EvP.le rfl rfl) (fun h51 => ?_) (fun h51 => ?_)
          · refine TL.nil ?_
            refine TX.thenN rfl rfl ?_
            refine TC.ctrue rfl ?_
            refine TC.skip ?_
            refine TX.thenN rfl rfl ?_
            refine TC.seq ?_
            refine TC.block ?_
            refine TC.seq ?_
            refine TC.seq ?_
            refine TC.region ?_
            refine TL.p (EvP.move rfl) ?_
            refine TL.p (EvP.move rfl) ?_
            refine TL.p (EvP.add rfl rfl (by omega)) ?_
            refine TL.p (EvP.move rfl) ?_
            refine TL.p (EvP.lenL Tryd.runUnderlying9 rfl) ?_
            refine TL.dec (EvP.ge rfl rfl) (fun h59 => ?_) (fun h59 => ?_)
            · refine TL.p (EvP.move rfl) ?_
              refine TL.gN rfl rfl rfl ?_
              refine TL.gN rfl rfl rfl ?_
              refine TL.gN rfl rfl rfl ?_
              refine TL.gN rfl rfl rfl ?_
              refine TL.gN rfl rfl rfl ?_
              refine TL.gN rfl rfl rfl ?_
              refine TL.gN rfl rfl rfl ?_
              refine TL.p (EvP.pickT rfl rfl) ?_
              refine TL.nil ?_
              refine TX.thenN rfl rfl ?_
              refine TC.ctrue rfl ?_
              refine TC.seq ?_
              refine TC.region ?_
              refine TL.p (EvP.assign rfl) ?_
              refine TL.nil ?_
              refine TX.thenN rfl rfl ?_
              refine TC.ret ?_
              refine TX.thenR ?_
              refine TX.blkR ?_
              refine TX.thenR ?_
              refine TX.thenR ?_
              refine TX.blkR ?_
              refine TX.thenR ?_
              refine TX.blkR ?_
              refine TX.thenR ?_
              refine TX.blkR ?_
              refine TX.thenR ?_
              refine TX.done rfl (Res.one rfl rfl) (fun w hs => Post0.mk hs ?_ (by repeat (first | exact Le.refl _ | exact Le.nil _ | refine Le.hit ?_ | refine Le.hit1 ?_ | refine Le.hit2 ?_ | refine Le.hit3 ?_ | refine Le.hit4 ?_ | refine Le.hit5 ?_ | refine Le.hit6 ?_ | refine Le.hit7 ?_ | refine Le.hit8 ?_ | refine Le.hit9 ?_ | refine Le.hit10 ?_ | refine Le.skip ?_)))
              rw [← hv, vd_short hld hk1 (by omega) (by first | (left; omega) | (right; rw [hbk]; exact fun h => h67 ((mask_cont d).2 h)))]
            · refine TL.p (EvP.move rfl) ?_
              refine TL.gY rfl rfl rfl ?_
              refine TL.p (EvP.move rfl) ?_
              refine TL.gY rfl rfl rfl ?_
              refine TL.p (EvP.move rfl) ?_
              refine TL.gY rfl rfl rfl ?_
              refine TL.p (EvP.move rfl) ?_
              refine TL.gY rfl rfl rfl ?_
              refine TL.p (EvP.add rfl rfl (by omega)) ?_
              refine TL.gY rfl rfl rfl ?_
              have hik : i + k < s.length := by omega
              obtain ⟨d, hd⟩ : ∃ d, s[i + k]? = some d := ⟨_, List.getElem?_eq_getElem hik⟩
              have hd256 := d.toNat_lt
              have hbk : bt (s.drop i) k = d.toNat := bt_drop hd
              refine TL.p (EvP.idxS Tryd.runUnderlying9 rfl rfl (by omega) (c := d) (by rw [show ((i : Int) + k).toNat = i + k from by omega]; exact hd)) ?_
              refine TL.gY rfl rfl rfl ?_
              refine TL.p (EvP.bit (.inl rfl) rfl rfl rfl) ?_
              refine TL.gY rfl rfl rfl ?_
              refine TL.dec (EvP.ne rfl rfl) (fun h67 => ?_) (fun h67 => ?_)
              · refine TL.p (EvP.pickF rfl rfl) ?_
                refine TL.nil ?_
                refine TX.thenN rfl rfl ?_
                refine TC.ctrue rfl ?_
                refine TC.seq ?_
                refine TC.region ?_
                refine TL.p (EvP.assign rfl) ?_
                refine TL.nil ?_
                refine TX.thenN rfl rfl ?_
                refine TC.ret ?_
                refine TX.thenR ?_
                refine TX.blkR ?_
                refine TX.thenR ?_
                refine TX.thenR ?_
                refine TX.blkR ?_
                refine TX.thenR ?_
                refine TX.blkR ?_
                refine TX.thenR ?_
                refine TX.blkR ?_
                refine TX.thenR ?_
                refine TX.done rfl (Res.one rfl rfl) (fun w hs => Post0.mk hs ?_ (by repeat (first | exact Le.refl _ | exact Le.nil _ | refine Le.hit ?_ | refine Le.hit1 ?_ | refine Le.hit2 ?_ | refine Le.hit3 ?_ | refine Le.hit4 ?_ | refine Le.hit5 ?_ | refine Le.hit6 ?_ | refine Le.hit7 ?_ | refine Le.hit8 ?_ | refine Le.hit9 ?_ | refine Le.hit10 ?_ | refine Le.skip ?_)))
                rw [← hv, vd_short hld hk1 (by omega) (by first | (left; omega) | (right; rw [hbk]; exact fun h => h67 ((mask_cont d).2 h)))]
              · refine TL.p (EvP.pickF rfl rfl) ?_
                refine TL.nil ?_
                refine TX.thenN rfl rfl ?_
                refine TC.cfalse rfl ?_
                refine TC.skip ?_
                refine TX.thenN rfl rfl ?_
                refine TC.region ?_
                refine TL.p (EvP.move rfl) ?_
                refine TL.p (EvP.mul rfl rfl (by omega)) ?_
                refine TL.p (EvP.move rfl) ?_
                refine TL.p (EvP.move rfl) ?_
                refine TL.p (EvP.move rfl) ?_
                refine TL.p (EvP.add rfl rfl (by omega)) ?_
                refine TL.p (EvP.idxS Tryd.runUnderlying9 rfl rfl (by omega) (c := d) (by rw [show ((i : Int) + k).toNat = i + k from by omega]; exact hd)) ?_
                refine TL.p (EvP.bit (.inl rfl) rfl rfl (u8_and63 _ (by omega) (by omega))) ?_
                refine TL.p (EvP.conv64 rfl (by omega) Tryd.runUnderlying5 Tryd.runUnderlying3) ?_
                refine TL.p (EvP.isV (EvP.add rfl rfl (by omega)) (rr_step hk1 hbk)) ?_
                refine TL.p (EvP.assign rfl) ?_
                refine TL.nil ?_
                refine TX.blkN ?_
                refine TX.thenN rfl rfl ?_
                refine TC.region ?_
                refine TL.p (EvP.move rfl) ?_
                refine TL.p (EvP.add rfl rfl (by omega)) ?_
                refine TL.p (EvP.assign rfl) ?_
                refine TL.nil ?_
                refine TX.back (k + 1) (⟨by omega, by omega, all_next hall (by omega) hbk ((mask_cont d).1 (Decidable.of_not_not h67))⟩) (by omega) ⟨rfl, rfl, rfl, rfl, rfl, rfl, rfl, trivial⟩ (by repeat (first | exact Le.refl _ | exact Le.nil _ | refine Le.hit ?_ | refine Le.hit1 ?_ | refine Le.hit2 ?_ | refine Le.hit3 ?_ | refine Le.hit4 ?_ | refine Le.hit5 ?_ | refine Le.hit6 ?_ | refine Le.hit7 ?_ | refine Le.hit8 ?_ | refine Le.hit9 ?_ | refine Le.hit10 ?_ | refine Le.skip ?_))
          · refine TL.nil ?_
            refine TX.thenN rfl rfl ?_
            refine TC.cfalse rfl ?_
            refine TC.exit ?_
            refine TX.thenE ?_
            refine TX.thenE ?_
            refine TX.blkH ?_
            refine TX.thenN rfl rfl ?_
            refine TC.seq ?_
            refine TC.seq ?_
            refine TC.region ?_
            have hk3 : k = 2 := by omega
            subst hk3
            refine TL.p (EvP.move rfl) ?_
            refine TL.p (EvP.move rfl) ?_
            refine TL.dec (EvP.lt rfl rfl) (fun h81 => ?_) (fun h81 => ?_)
            · refine TL.p (EvP.move rfl) ?_
              refine TL.gN rfl rfl rfl ?_
              refine TL.gN rfl rfl rfl ?_
              refine TL.p (EvP.pickT rfl rfl) ?_
              refine TL.p (EvP.move rfl) ?_
              refine TL.gN rfl rfl rfl ?_
              refine TL.gN rfl rfl rfl ?_
              refine TL.gN rfl rfl rfl ?_
              refine TL.gU rfl rfl ?_
              refine TL.gU rfl rfl ?_
              refine TL.gN rfl rfl rfl ?_
              refine TL.p (EvP.pickT rfl rfl) ?_
              refine TL.nil ?_
              refine TX.thenN rfl rfl ?_
              refine TC.ctrue rfl ?_
              refine TC.seq ?_
              refine TC.region ?_
              refine TL.p (EvP.assign rfl) ?_
              refine TL.nil ?_
              refine TX.thenN rfl rfl ?_
              refine TC.ret ?_
              refine TX.thenR ?_
              refine TX.blkR ?_
              refine TX.thenR ?_
              refine TX.blkR ?_
              refine TX.thenR ?_
              refine TX.done rfl (Res.one rfl rfl) (fun w hs => Post0.mk hs ?_ (by repeat (first | exact Le.refl _ | exact Le.nil _ | refine Le.hit ?_ | refine Le.hit1 ?_ | refine Le.hit2 ?_ | refine Le.hit3 ?_ | refine Le.hit4 ?_ | refine Le.hit5 ?_ | refine Le.hit6 ?_ | refine Le.hit7 ?_ | refine Le.hit8 ?_ | refine Le.hit9 ?_ | refine Le.hit10 ?_ | refine Le.skip ?_)))
              rw [← hv, vd_bad1 hld hall (by omega)]
            · refine TL.p (EvP.move rfl) ?_
              refine TL.gY rfl rfl rfl ?_
              refine TL.p (EvP.move rfl) ?_
              refine TL.gY rfl rfl rfl ?_
              refine TL.dec (EvP.gt rfl rfl) (fun h84 => ?_) (fun h84 => ?_)
              · refine TL.p (EvP.pickF rfl rfl) ?_
                refine TL.p (EvP.move rfl) ?_
                refine TL.gN rfl rfl rfl ?_
                refine TL.gN rfl rfl rfl ?_
                refine TL.gN rfl rfl rfl ?_
                refine TL.gU rfl rfl ?_
                refine TL.gU rfl rfl ?_
                refine TL.gN rfl rfl rfl ?_
                refine TL.p (EvP.pickT rfl rfl) ?_
                refine TL.nil ?_
                refine TX.thenN rfl rfl ?_
                refine TC.ctrue rfl ?_
                refine TC.seq ?_
                refine TC.region ?_
                refine TL.p (EvP.assign rfl) ?_
                refine TL.nil ?_
                refine TX.thenN rfl rfl ?_
                refine TC.ret ?_
                refine TX.thenR ?_
                refine TX.blkR ?_
                refine TX.thenR ?_
                refine TX.blkR ?_
                refine TX.thenR ?_
                refine TX.done rfl (Res.one rfl rfl) (fun w hs => Post0.mk hs ?_ (by repeat (first | exact Le.refl _ | exact Le.nil _ | refine Le.hit ?_ | refine Le.hit1 ?_ | refine Le.hit2 ?_ | refine Le.hit3 ?_ | refine Le.hit4 ?_ | refine Le.hit5 ?_ | refine Le.hit6 ?_ | refine Le.hit7 ?_ | refine Le.hit8 ?_ | refine Le.hit9 ?_ | refine Le.hit10 ?_ | refine Le.skip ?_)))
                rw [← hv, vd_bad1 hld hall (by omega)]
              · refine TL.p (EvP.pickF rfl rfl) ?_
                refine TL.p (EvP.move rfl) ?_
                refine TL.gY rfl rfl rfl ?_
                refine TL.p (EvP.move rfl) ?_
                refine TL.gY rfl rfl rfl ?_
                refine TL.dec (EvP.ge rfl rfl) (fun h88 => ?_) (fun h88 => ?_)
                · refine TL.gY rfl rfl rfl ?_
                  refine TL.p (EvP.move rfl) ?_
                  refine TL.gY rfl rfl rfl ?_
                  refine TL.p (EvP.move rfl) ?_
                  refine TL.gY rfl rfl rfl ?_
                  refine TL.dec (EvP.lt rfl rfl) (fun h91 => ?_) (fun h91 => ?_)
                  · refine TL.gY rfl rfl rfl ?_
                    refine TL.p (EvP.pickT rfl rfl) ?_
                    refine TL.p (EvP.pickF rfl rfl) ?_
                    refine TL.nil ?_
                    refine TX.thenN rfl rfl ?_
                    refine TC.ctrue rfl ?_
                    refine TC.seq ?_
                    refine TC.region ?_
                    refine TL.p (EvP.assign rfl) ?_
                    refine TL.nil ?_
                    refine TX.thenN rfl rfl ?_
                    refine TC.ret ?_
                    refine TX.thenR ?_
                    refine TX.blkR ?_
                    refine TX.thenR ?_
                    refine TX.blkR ?_
                    refine TX.thenR ?_
                    refine TX.done rfl (Res.one rfl rfl) (fun w hs => Post0.mk hs ?_ (by repeat (first | exact Le.refl _ | exact Le.nil _ | refine Le.hit ?_ | refine Le.hit1 ?_ | refine Le.hit2 ?_ | refine Le.hit3 ?_ | refine Le.hit4 ?_ | refine Le.hit5 ?_ | refine Le.hit6 ?_ | refine Le.hit7 ?_ | refine Le.hit8 ?_ | refine Le.hit9 ?_ | refine Le.hit10 ?_ | refine Le.skip ?_)))
                    rw [← hv, vd_bad1 hld hall (by omega)]
                  · refine TL.gY rfl rfl rfl ?_
                    refine TL.p (EvP.pickT rfl rfl) ?_
                    refine TL.p (EvP.pickF rfl rfl) ?_
                    refine TL.nil ?_
                    refine TX.thenN rfl rfl ?_
                    refine TC.cfalse rfl ?_
                    refine TC.skip ?_
                    refine TX.thenN rfl rfl ?_
                    refine TC.region ?_
                    refine TL.p (EvP.move rfl) ?_
                    refine TL.p (EvP.move rfl) ?_
                    refine TL.p (EvP.add rfl rfl (by omega)) ?_
                    refine TL.p (EvP.add rfl rfl (by omega)) ?_
                    refine TL.p (EvP.assign rfl) ?_
                    refine TL.nil ?_
                    refine TX.blkN ?_
                    have hln := (hall 1 (by omega) (by omega)).1
                    refine TX.back (i + 1 + 1) (⟨by omega, (vd_next1 hld hall (by omega)).trans hv⟩) (by omega) ⟨rfl, rfl, trivial⟩ (by repeat (first | exact Le.refl _ | exact Le.nil _ | refine Le.hit ?_ | refine Le.hit1 ?_ | refine Le.hit2 ?_ | refine Le.hit3 ?_ | refine Le.hit4 ?_ | refine Le.hit5 ?_ | refine Le.hit6 ?_ | refine Le.hit7 ?_ | refine Le.hit8 ?_ | refine Le.hit9 ?_ | refine Le.hit10 ?_ | refine Le.skip ?_))
                · refine TL.gY rfl rfl rfl ?_
                  refine TL.p (EvP.move rfl) ?_
                  refine TL.gN rfl rfl rfl ?_
                  refine TL.gN rfl rfl rfl ?_
                  refine TL.gY rfl rfl rfl ?_
                  refine TL.p (EvP.pickF rfl rfl) ?_
                  refine TL.p (EvP.pickF rfl rfl) ?_
                  refine TL.nil ?_
                  refine TX.thenN rfl rfl ?_
                  refine TC.cfalse rfl ?_
                  refine TC.skip ?_
                  refine TX.thenN rfl rfl ?_
                  refine TC.region ?_
                  refine TL.p (EvP.move rfl) ?_
                  refine TL.p (EvP.move rfl) ?_
                  refine TL.p (EvP.add rfl rfl (by omega)) ?_
                  refine TL.p (EvP.add rfl rfl (by omega)) ?_
                  refine TL.p (EvP.assign rfl) ?_
                  refine TL.nil ?_
                  refine TX.blkN ?_
                  have hln := (hall 1 (by omega) (by omega)).1
                  refine TX.back (i + 1 + 1) (⟨by omega, (vd_next1 hld hall (by omega)).trans hv⟩) (by omega) ⟨rfl, rfl, trivial⟩ (by repeat (first | exact Le.refl _ | exact Le.nil _ | refine Le.hit ?_ | refine Le.hit1 ?_ | refine Le.hit2 ?_ | refine Le.hit3 ?_ | refine Le.hit4 ?_ | refine Le.hit5 ?_ | refine Le.hit6 ?_ | refine Le.hit7 ?_ | refine Le.hit8 ?_ | refine Le.hit9 ?_ | refine Le.hit10 ?_ | refine Le.skip ?_))
        · refine TL.p (EvP.pickT rfl rfl) ?_
          refine TL.p (EvP.assign rfl) ?_
          refine TL.nil ?_
          refine TX.thenN rfl rfl ?_
          refine TC.cfalse rfl ?_
          refine TC.seq ?_
          refine TC.region ?_
          refine TL.p (EvP.move rfl) ?_
          refine TL.dec (EvP.ge rfl rfl) (fun h33 => ?_) (fun h33 => ?_)
          · refine TL.p (EvP.move rfl) ?_
            refine TL.gY rfl rfl rfl ?_
            refine TL.p (EvP.move rfl) ?_
            refine TL.gY rfl rfl rfl ?_
            refine TL.dec (EvP.lt rfl rfl) (fun h36 => ?_) (fun h36 => ?_)
            · refine TL.p (EvP.pickT rfl rfl) ?_
              refine TL.p (EvP.assign rfl) ?_
              refine TL.nil ?_
              refine TX.thenN rfl rfl ?_
              refine TC.ctrue rfl ?_
              refine TC.seq ?_
              refine TC.region ?_
              refine TL.p (EvP.assign rfl) ?_
              refine TL.nil ?_
              refine TX.thenN rfl rfl ?_
              refine TC.seq ?_
              refine TC.region ?_
              refine TL.p (EvP.assign rfl) ?_
              refine TL.nil ?_
              refine TX.thenN rfl rfl ?_
              refine TC.region ?_
              refine TL.p (EvP.move rfl) ?_
              refine TL.p (EvP.isV (EvP.bit (.inl rfl) rfl rfl (and15 (by omega) (by omega))) (rr_start (m := 16) hb0)) ?_
              refine TL.p (EvP.assign rfl) ?_
              refine TL.nil ?_
              refine TX.blkN ?_
              refine TX.thenN rfl rfl ?_
              refine TC.seq ?_
              refine TC.seq ?_
              refine TC.region ?_
              refine TL.p (EvP.assign rfl) ?_
              refine TL.nil ?_
              refine TX.thenN rfl rfl ?_
              refine TC.block ?_
              refine TC.loop (ι := Nat) (fun k => [(0, sv s), (3, .int .i64 i), (4, .int .i64 c.toNat), (5, .int .i64 2), (6, .int .i64 2048), (7, .int .i64 (rr (s.drop i) 16 k : Nat)), (8, .int .i64 k)]) (fun k => R) (fun k => 1 ≤ k ∧ k ≤ 3 ∧ ∀ j, 1 ≤ j → j < k → j < (s.drop i).length ∧ cont (bt (s.drop i) j)) (fun k => 3 - k) (1) (⟨by omega, by omega, fun j h1 h2 => absurd h2 (by omega)⟩) ⟨rfl, rfl, rfl, rfl, rfl, rfl, rfl, trivial⟩ (by repeat (first | exact Le.refl _ | exact Le.nil _ | refine Le.hit ?_ | refine Le.hit1 ?_ | refine Le.hit2 ?_ | refine Le.hit3 ?_ | refine Le.hit4 ?_ | refine Le.hit5 ?_ | refine Le.hit6 ?_ | refine Le.hit7 ?_ | refine Le.hit8 ?_ | refine Le.hit9 ?_ | refine Le.hit10 ?_ | refine Le.skip ?_)) ?_
              rintro k ⟨hk1, hk2, hall⟩
              change TC _ _ [(0, sv s), (3, .int .i64 i), (4, .int .i64 c.toNat), (5, .int .i64 2), (6, .int .i64 2048), (7, .int .i64 (rr (s.drop i) 16 k : Nat)), (8, .int .i64 k)] (R) _
              have hrr := rr_lt (l := s.drop i) (m := 16) (k := k) (by omega) (by omega) (by omega)
              have hdl : (s.drop i).length = s.length - i := List.length_drop
              have hld : lead 2 (bt (s.drop i) 0) := by unfold lead; omega
              refine TC.seq ?_
              refine TC.seq ?_
              refine TC.region ?_
              refine TL.p (EvP.move rfl) ?_
              refine TL.p (EvP.move rfl) ?_
              refine TL.dec (EvP.le rfl rfl) (fun h51 => ?_) (fun h51 => ?_)
              · refine TL.nil ?_
                refine TX.thenN rfl rfl ?_
                refine TC.ctrue rfl ?_
                refine TC.skip ?_
                refine TX.thenN rfl rfl ?_
                refine TC.seq ?_
                refine TC.block ?_
                refine TC.seq ?_
                refine TC.seq ?_
                refine TC.region ?_
                refine TL.p (EvP.move rfl) ?_
                refine TL.p (EvP.move rfl) ?_
                refine TL.p (EvP.add rfl rfl (by omega)) ?_
                refine TL.p (EvP.move rfl) ?_
                refine TL.p (EvP.lenL Tryd.runUnderlying9 rfl) ?_
                refine TL.dec (EvP.ge rfl rfl) (fun h59 => ?_) (fun h59 => ?_)
                · refine TL.p (EvP.move rfl) ?_
                  refine TL.gN rfl rfl rfl ?_
                  refine TL.gN rfl rfl rfl ?_
                  refine TL.gN rfl rfl rfl ?_
                  refine TL.gN rfl rfl rfl ?_
                  refine TL.gN rfl rfl rfl ?_
                  refine TL.gN rfl rfl rfl ?_
                  refine TL.gN rfl rfl rfl ?_
                  refine TL.p (EvP.pickT rfl rfl) ?_
                  refine TL.nil ?_
                  refine TX.thenN rfl rfl ?_
                  refine TC.ctrue rfl ?_
                  refine TC.seq ?_
                  refine TC.region ?_
                  refine TL.p (EvP.assign rfl) ?_
                  refine TL.nil ?_
                  refine TX.thenN rfl rfl ?_
                  refine TC.ret ?_
                  refine TX.thenR ?_
                  refine TX.blkR ?_
                  refine TX.thenR ?_
                  refine TX.thenR ?_
                  refine TX.blkR ?_
                  refine TX.thenR ?_
                  refine TX.blkR ?_
                  refine TX.thenR ?_
                  refine TX.blkR ?_
                  refine TX.thenR ?_
                  refine TX.done rfl (Res.one rfl rfl) (fun w hs => Post0.mk hs ?_ (by repeat (first | exact Le.refl _ | exact Le.nil _ | refine Le.hit ?_ | refine Le.hit1 ?_ | refine Le.hit2 ?_ | refine Le.hit3 ?_ | refine Le.hit4 ?_ | refine Le.hit5 ?_ | refine Le.hit6 ?_ | refine Le.hit7 ?_ | refine Le.hit8 ?_ | refine Le.hit9 ?_ | refine Le.hit10 ?_ | refine Le.skip ?_)))
                  rw [← hv, vd_short hld hk1 (by omega) (by first | (left; omega) | (right; rw [hbk]; exact fun h => h67 ((mask_cont d).2 h)))]
                · refine TL.p (EvP.move rfl) ?_
                  refine TL.gY rfl rfl rfl ?_
                  refine TL.p (EvP.move rfl) ?_
                  refine TL.gY rfl rfl rfl ?_
                  refine TL.p (EvP.move rfl) ?_
                  refine TL.gY rfl rfl rfl ?_
                  refine TL.p (EvP.move rfl) ?_
                  refine TL.gY rfl rfl rfl ?_
                  refine TL.p (EvP.add rfl rfl (by omega)) ?_
                  refine TL.gY rfl rfl rfl ?_
                  have hik : i + k < s.length := by omega
                  obtain ⟨d, hd⟩ : ∃ d, s[i + k]? = some d := ⟨_, List.getElem?_eq_getElem hik⟩
                  have hd256 := d.toNat_lt
                  have hbk : bt (s.drop i) k = d.toNat := bt_drop hd
                  refine TL.p (EvP.idxS Tryd.runUnderlying9 rfl rfl (by omega) (c := d) (by rw [show ((i : Int) + k).toNat = i + k from by omega]; exact hd)) ?_
                  refine TL.gY rfl rfl rfl ?_
                  refine TL.p (EvP.bit (.inl rfl) rfl rfl rfl) ?_
                  refine TL.gY rfl rfl rfl ?_
                  refine TL.dec (EvP.ne rfl rfl) (fun h67 => ?_) (fun h67 => ?_)
                  · refine TL.p (EvP.pickF rfl rfl) ?_
                    refine TL.nil ?_
                    refine TX.thenN rfl rfl ?_
                    refine TC.ctrue rfl ?_
                    refine TC.seq ?_
                    refine TC.region ?_
                    refine TL.p (EvP.assign rfl) ?_
                    refine TL.nil ?_
                    refine TX.thenN rfl rfl ?_
                    refine TC.ret ?_
                    refine TX.thenR ?_
                    refine TX.blkR ?_
                    refine TX.thenR ?_
                    refine TX.thenR ?_
                    refine TX.blkR ?_
                    refine TX.thenR ?_
                    refine TX.blkR ?_
                    refine TX.thenR ?_
                    refine TX.blkR ?_
                    refine TX.thenR ?_
                    refine TX.done rfl (Res.one rfl rfl) (fun w hs => Post0.mk hs ?_ (by repeat (first | exact Le.refl _ | exact Le.nil _ | refine Le.hit ?_ | refine Le.hit1 ?_ | refine Le.hit2 ?_ | refine Le.hit3 ?_ | refine Le.hit4 ?_ | refine Le.hit5 ?_ | refine Le.hit6 ?_ | refine Le.hit7 ?_ | refine Le.hit8 ?_ | refine Le.hit9 ?_ | refine Le.hit10 ?_ | refine Le.skip ?_)))
                    rw [← hv, vd_short hld hk1 (by omega) (by first | (left; omega) | (right; rw [hbk]; exact fun h => h67 ((mask_cont d).2 h)))]
                  · refine TL.p (EvP.pickF rfl rfl) ?_
                    refine TL.nil ?_
                    refine TX.thenN rfl rfl ?_
                    refine TC.cfalse rfl ?_
                    refine TC.skip ?_
                    refine TX.thenN rfl rfl ?_
                    refine TC.region ?_
                    refine TL.p (EvP.move rfl) ?_
                    refine TL.p (EvP.mul rfl rfl (by omega)) ?_
                    refine TL.p (EvP.move rfl) ?_
                    refine TL.p (EvP.move rfl) ?_
                    refine TL.p (EvP.move rfl) ?_
                    refine TL.p (EvP.add rfl rfl (by omega)) ?_
                    refine TL.p (EvP.idxS Tryd.runUnderlying9 rfl rfl (by omega) (c := d) (by rw [show ((i : Int) + k).toNat = i + k from by omega]; exact hd)) ?_
                    refine TL.p (EvP.bit (.inl rfl) rfl rfl (u8_and63 _ (by omega) (by omega))) ?_
                    refine TL.p (EvP.conv64 rfl (by omega) Tryd.runUnderlying5 Tryd.runUnderlying3) ?_
                    refine TL.p (EvP.isV (EvP.add rfl rfl (by omega)) (rr_step hk1 hbk)) ?_
                    refine TL.p (EvP.assign rfl) ?_
                    refine TL.nil ?_
                    refine TX.blkN ?_
                    refine TX.thenN rfl rfl ?_
                    refine TC.region ?_
                    refine TL.p (EvP.move rfl) ?_
                    refine TL.p (EvP.add rfl rfl (by omega)) ?_
                    refine TL.p (EvP.assign rfl) ?_
                    refine TL.nil ?_
                    refine TX.back (k + 1) (⟨by omega, by omega, all_next hall (by omega) hbk ((mask_cont d).1 (Decidable.of_not_not h67))⟩) (by omega) ⟨rfl, rfl, rfl, rfl, rfl, rfl, rfl, trivial⟩ (by repeat (first | exact Le.refl _ | exact Le.nil _ | refine Le.hit ?_ | refine Le.hit1 ?_ | refine Le.hit2 ?_ | refine Le.hit3 ?_ | refine Le.hit4 ?_ | refine Le.hit5 ?_ | refine Le.hit6 ?_ | refine Le.hit7 ?_ | refine Le.hit8 ?_ | refine Le.hit9 ?_ | refine Le.hit10 ?_ | refine Le.skip ?_))
              · refine TL.nil ?_
                refine TX.thenN rfl rfl ?_
                refine TC.cfalse rfl ?_
                refine TC.exit ?_
                refine TX.thenE ?_
                refine TX.thenE ?_
                refine TX.blkH ?_
                refine TX.thenN rfl rfl ?_
                refine TC.seq ?_
                refine TC.seq ?_
                refine TC.region ?_
                have hk3 : k = 3 := by omega
                subst hk3
                refine TL.p (EvP.move rfl) ?_
                refine TL.p (EvP.move rfl) ?_
                refine TL.dec (EvP.lt rfl rfl) (fun h81 => ?_) (fun h81 => ?_)
                · refine TL.p (EvP.move rfl) ?_
                  refine TL.gN rfl rfl rfl ?_
                  refine TL.gN rfl rfl rfl ?_
                  refine TL.p (EvP.pickT rfl rfl) ?_
                  refine TL.p (EvP.move rfl) ?_
                  refine TL.gN rfl rfl rfl ?_
                  refine TL.gN rfl rfl rfl ?_
                  refine TL.gN rfl rfl rfl ?_
                  refine TL.gU rfl rfl ?_
                  refine TL.gU rfl rfl ?_
                  refine TL.gN rfl rfl rfl ?_
                  refine TL.p (EvP.pickT rfl rfl) ?_
                  refine TL.nil ?_
                  refine TX.thenN rfl rfl ?_
                  refine TC.ctrue rfl ?_
                  refine TC.seq ?_
                  refine TC.region ?_
                  refine TL.p (EvP.assign rfl) ?_
                  refine TL.nil ?_
                  refine TX.thenN rfl rfl ?_
                  refine TC.ret ?_
                  refine TX.thenR ?_
                  refine TX.blkR ?_
                  refine TX.thenR ?_
                  refine TX.blkR ?_
                  refine TX.thenR ?_
                  refine TX.done rfl (Res.one rfl rfl) (fun w hs => Post0.mk hs ?_ (by repeat (first | exact Le.refl _ | exact Le.nil _ | refine Le.hit ?_ | refine Le.hit1 ?_ | refine Le.hit2 ?_ | refine Le.hit3 ?_ | refine Le.hit4 ?_ | refine Le.hit5 ?_ | refine Le.hit6 ?_ | refine Le.hit7 ?_ | refine Le.hit8 ?_ | refine Le.hit9 ?_ | refine Le.hit10 ?_ | refine Le.skip ?_)))
                  rw [← hv, vd_bad2 hld hall (by omega)]
                · refine TL.p (EvP.move rfl) ?_
                  refine TL.gY rfl rfl rfl ?_
                  refine TL.p (EvP.move rfl) ?_
                  refine TL.gY rfl rfl rfl ?_
                  refine TL.dec (EvP.gt rfl rfl) (fun h84 => ?_) (fun h84 => ?_)
                  · refine TL.p (EvP.pickF rfl rfl) ?_
                    refine TL.p (EvP.move rfl) ?_
                    refine TL.gN rfl rfl rfl ?_
                    refine TL.gN rfl rfl rfl ?_
                    refine TL.gN rfl rfl rfl ?_
                    refine TL.gU rfl rfl ?_
                    refine TL.gU rfl rfl ?_
                    refine TL.gN rfl rfl rfl ?_
                    refine TL.p (EvP.pickT rfl rfl) ?_
                    refine TL.nil ?_
                    refine TX.thenN rfl rfl ?_
                    refine TC.ctrue rfl ?_
                    refine TC.seq ?_
                    refine TC.region ?_
                    refine TL.p (EvP.assign rfl) ?_
                    refine TL.nil ?_
                    refine TX.thenN rfl rfl ?_
                    refine TC.ret ?_
                    refine TX.thenR ?_
                    refine TX.blkR ?_
                    refine TX.thenR ?_
                    refine TX.blkR ?_
                    refine TX.thenR ?_
                    refine TX.done rfl (Res.one rfl rfl) (fun w hs => Post0.mk hs ?_ (by repeat (first | exact Le.refl _ | exact Le.nil _ | refine Le.hit ?_ | refine Le.hit1 ?_ | refine Le.hit2 ?_ | refine Le.hit3 ?_ | refine Le.hit4 ?_ | refine Le.hit5 ?_ | refine Le.hit6 ?_ | refine Le.hit7 ?_ | refine Le.hit8 ?_ | refine Le.hit9 ?_ | refine Le.hit10 ?_ | refine Le.skip ?_)))
                    rw [← hv, vd_bad2 hld hall (by omega)]
                  · refine TL.p (EvP.pickF rfl rfl) ?_
                    refine TL.p (EvP.move rfl) ?_
                    refine TL.gY rfl rfl rfl ?_
                    refine TL.p (EvP.move rfl) ?_
                    refine TL.gY rfl rfl rfl ?_
                    refine TL.dec (EvP.ge rfl rfl) (fun h88 => ?_) (fun h88 => ?_)
                    · refine TL.gY rfl rfl rfl ?_
                      refine TL.p (EvP.move rfl) ?_
                      refine TL.gY rfl rfl rfl ?_
                      refine TL.p (EvP.move rfl) ?_
                      refine TL.gY rfl rfl rfl ?_
                      refine TL.dec (EvP.lt rfl rfl) (fun h91 => ?_) (fun h91 => ?_)
                      · refine TL.gY rfl rfl rfl ?_
                        refine TL.p (EvP.pickT rfl rfl) ?_
                        refine TL.p (EvP.pickF rfl rfl) ?_
                        refine TL.nil ?_
                        refine TX.thenN rfl rfl ?_
                        refine TC.ctrue rfl ?_
                        refine TC.seq ?_
                        refine TC.region ?_
                        refine TL.p (EvP.assign rfl) ?_
                        refine TL.nil ?_
                        refine TX.thenN rfl rfl ?_
                        refine TC.ret ?_
                        refine TX.thenR ?_
                        refine TX.blkR ?_
                        refine TX.thenR ?_
                        refine TX.blkR ?_
                        refine TX.thenR ?_
                        refine TX.done rfl (Res.one rfl rfl) (fun w hs => Post0.mk hs ?_ (by repeat (first | exact Le.refl _ | exact Le.nil _ | refine Le.hit ?_ | refine Le.hit1 ?_ | refine Le.hit2 ?_ | refine Le.hit3 ?_ | refine Le.hit4 ?_ | refine Le.hit5 ?_ | refine Le.hit6 ?_ | refine Le.hit7 ?_ | refine Le.hit8 ?_ | refine Le.hit9 ?_ | refine Le.hit10 ?_ | refine Le.skip ?_)))
                        rw [← hv, vd_bad2 hld hall (by omega)]
                      · refine TL.gY rfl rfl rfl ?_
                        refine TL.p (EvP.pickT rfl rfl) ?_
                        refine TL.p (EvP.pickF rfl rfl) ?_
                        refine TL.nil ?_
                        refine TX.thenN rfl rfl ?_
                        refine TC.cfalse rfl ?_
                        refine TC.skip ?_
                        refine TX.thenN rfl rfl ?_
                        refine TC.region ?_
                        refine TL.p (EvP.move rfl) ?_
                        refine TL.p (EvP.move rfl) ?_
                        refine TL.p (EvP.add rfl rfl (by omega)) ?_
                        refine TL.p (EvP.add rfl rfl (by omega)) ?_
                        refine TL.p (EvP.assign rfl) ?_
                        refine TL.nil ?_
                        refine TX.blkN ?_
                        have hln := (hall 2 (by omega) (by omega)).1
                        refine TX.back (i + 2 + 1) (⟨by omega, (vd_next2 hld hall (by omega)).trans hv⟩) (by omega) ⟨rfl, rfl, trivial⟩ (by repeat (first | exact Le.refl _ | exact Le.nil _ | refine Le.hit ?_ | refine Le.hit1 ?_ | refine Le.hit2 ?_ | refine Le.hit3 ?_ | refine Le.hit4 ?_ | refine Le.hit5 ?_ | refine Le.hit6 ?_ | refine Le.hit7 ?_ | refine Le.hit8 ?_ | refine Le.hit9 ?_ | refine Le.hit10 ?_ | refine Le.skip ?_))
                    · refine TL.gY rfl rfl rfl ?_
                      refine TL.p (EvP.move rfl) ?_
                      refine TL.gN rfl rfl rfl ?_
                      refine TL.gN rfl rfl rfl ?_
                      refine TL.gY rfl rfl rfl ?_
                      refine TL.p (EvP.pickF rfl rfl) ?_
                      refine TL.p (EvP.pickF rfl rfl) ?_
                      refine TL.nil ?_
                      refine TX.thenN rfl rfl ?_
                      refine TC.cfalse rfl ?_
                      refine TC.skip ?_
                      refine TX.thenN rfl rfl ?_
                      refine TC.region ?_
                      refine TL.p (EvP.move rfl) ?_
                      refine TL.p (EvP.move rfl) ?_
                      refine TL.p (EvP.add rfl rfl (by omega)) ?_
                      refine TL.p (EvP.add rfl rfl (by omega)) ?_
                      refine TL.p (EvP.assign rfl) ?_
                      refine TL.nil ?_
                      refine TX.blkN ?_
                      have hln := (hall 2 (by omega) (by omega)).1
                      refine TX.back (i + 2 + 1) (⟨by omega, (vd_next2 hld hall (by omega)).trans hv⟩) (by omega) ⟨rfl, rfl, trivial⟩ (by repeat (first | exact Le.refl _ | exact Le.nil _ | refine Le.hit ?_ | refine Le.hit1 ?_ | refine Le.hit2 ?_ | refine Le.hit3 ?_ | refine Le.hit4 ?_ | refine Le.hit5 ?_ | refine Le.hit6 ?_ | refine Le.hit7 ?_ | refine Le.hit8 ?_ | refine Le.hit9 ?_ | refine Le.hit10 ?_ | refine Le.skip ?_))
            · refine TL.p (EvP.pickT rfl rfl) ?_
              refine TL.p (EvP.assign rfl) ?_
              refine TL.nil ?_
              refine TX.thenN rfl rfl ?_
              refine TC.cfalse rfl ?_
              refine TC.seq ?_
              refine TC.region ?_
              refine TL.p (EvP.move rfl) ?_
              refine TL.dec (EvP.ge rfl rfl) (fun h42 => ?_) (fun h42 => ?_)
              · refine TL.p (EvP.move rfl) ?_
                refine TL.gY rfl rfl rfl ?_
                refine TL.p (EvP.move rfl) ?_
                refine TL.gY rfl rfl rfl ?_
                refine TL.dec (EvP.lt rfl rfl) (fun h45 => ?_) (fun h45 => ?_)
                · refine TL.p (EvP.pickT rfl rfl) ?_
                  refine TL.p (EvP.assign rfl) ?_
                  refine TL.nil ?_
                  refine TX.thenN rfl rfl ?_
                  refine TC.ctrue rfl ?_
                  refine TC.seq ?_
                  refine TC.region ?_
                  refine TL.p (EvP.assign rfl) ?_
                  refine TL.nil ?_
                  refine TX.thenN rfl rfl ?_
                  refine TC.seq ?_
                  refine TC.region ?_
                  refine TL.p (EvP.assign rfl) ?_
                  refine TL.nil ?_
                  refine TX.thenN rfl rfl ?_
                  refine TC.region ?_
                  refine TL.p (EvP.move rfl) ?_
                  refine TL.p (EvP.isV (EvP.bit (.inl rfl) rfl rfl (and7i (by omega) (by omega))) (rr_start (m := 8) hb0)) ?_
                  refine TL.p (EvP.assign rfl) ?_
                  refine TL.nil ?_
                  refine TX.blkN ?_
                  refine TX.thenN rfl rfl ?_
                  refine TC.seq ?_
                  refine TC.seq ?_
                  refine TC.region ?_
                  refine TL.p (EvP.assign rfl) ?_
                  refine TL.nil ?_
                  refine TX.thenN rfl rfl ?_
                  refine TC.block ?_
                  refine TC.loop (ι := Nat) (fun k => [(0, sv s), (3, .int .i64 i), (4, .int .i64 c.toNat), (5, .int .i64 3), (6, .int .i64 65536), (7, .int .i64 (rr (s.drop i) 8 k : Nat)), (8, .int .i64 k)]) (fun k => R) (fun k => 1 ≤ k ∧ k ≤ 4 ∧ ∀ j, 1 ≤ j → j < k → j < (s.drop i).length ∧ cont (bt (s.drop i) j)) (fun k => 4 - k) (1) (⟨by omega, by omega, fun j h1 h2 => absurd h2 (by omega)⟩) ⟨rfl, rfl, rfl, rfl, rfl, rfl, rfl, trivial⟩ (by repeat (first | exact Le.refl _ | exact Le.nil _ | refine Le.hit ?_ | refine Le.hit1 ?_ | refine Le.hit2 ?_ | refine Le.hit3 ?_ | refine Le.hit4 ?_ | refine Le.hit5 ?_ | refine Le.hit6 ?_ | refine Le.hit7 ?_ | refine Le.hit8 ?_ | refine Le.hit9 ?_ | refine Le.hit10 ?_ | refine Le.skip ?_)) ?_
                  rintro k ⟨hk1, hk2, hall⟩
                  change TC _ _ [(0, sv s), (3, .int .i64 i), (4, .int .i64 c.toNat), (5, .int .i64 3), (6, .int .i64 65536), (7, .int .i64 (rr (s.drop i) 8 k : Nat)), (8, .int .i64 k)] (R) _
                  have hrr := rr_lt (l := s.drop i) (m := 8) (k := k) (by omega) (by omega) (by omega)
                  have hdl : (s.drop i).length = s.length - i := List.length_drop
                  have hld : lead 3 (bt (s.drop i) 0) := by unfold lead; omega
                  refine TC.seq ?_
                  refine TC.seq ?_
                  refine TC.region ?_
                  refine TL.p (EvP.move rfl) ?_
                  refine TL.p (EvP.move rfl) ?_
                  refine TL.dec (EvP.le rfl rfl) (fun h51 => ?_) (fun h51 => ?_)
                  · refine TL.nil ?_
                    refine TX.thenN rfl rfl ?_
                    refine TC.ctrue rfl ?_
                    refine TC.skip ?_
                    refine TX.thenN rfl rfl ?_
                    refine TC.seq ?_
                    refine TC.block ?_
                    refine TC.seq ?_
                    refine TC.seq ?_
                    refine TC.region ?_
                    refine TL.p (EvP.move rfl) ?_
                    refine TL.p (EvP.move rfl) ?_
                    refine TL.p (EvP.add rfl rfl (by omega)) ?_
                    refine TL.p (EvP.move rfl) ?_
                    refine TL.p (EvP.lenL Tryd.runUnderlying9 rfl) ?_
                    refine TL.dec (EvP.ge rfl rfl) (fun h59 => ?_) (fun h59 => ?_)
                    · refine TL.p (EvP.move rfl) ?_
                      refine TL.gN rfl rfl rfl ?_
                      refine TL.gN rfl rfl rfl ?_
                      refine TL.gN rfl rfl rfl ?_
                      refine TL.gN rfl rfl rfl ?_
                      refine TL.gN rfl rfl rfl ?_
                      refine TL.gN rfl rfl rfl ?_
                      refine TL.gN rfl rfl rfl ?_
                      refine TL.p (EvP.pickT rfl rfl) ?_
                      refine TL.nil ?_
                      refine TX.thenN rfl rfl ?_
                      refine TC.ctrue rfl ?_
                      refine TC.seq ?_
                      refine TC.region ?_
                      refine TL.p (EvP.assign rfl) ?_
                      refine TL.nil ?_
                      refine TX.thenN rfl rfl ?_
                      refine TC.ret ?_
                      refine TX.thenR ?_
                      refine TX.blkR ?_
                      refine TX.thenR ?_
                      refine TX.thenR ?_
                      refine TX.blkR ?_
                      refine TX.thenR ?_
                      refine TX.blkR ?_
                      refine TX.thenR ?_
                      refine TX.blkR ?_
                      refine TX.thenR ?_
                      refine TX.done rfl (Res.one rfl rfl) (fun w hs => Post0.mk hs ?_ (by repeat (first | exact Le.refl _ | exact Le.nil _ | refine Le.hit ?_ | refine Le.hit1 ?_ | refine Le.hit2 ?_ | refine Le.hit3 ?_ | refine Le.hit4 ?_ | refine Le.hit5 ?_ | refine Le.hit6 ?_ | refine Le.hit7 ?_ | refine Le.hit8 ?_ | refine Le.hit9 ?_ | refine Le.hit10 ?_ | refine Le.skip ?_)))
                      rw [← hv, vd_short hld hk1 (by omega) (by first | (left; omega) | (right; rw [hbk]; exact fun h => h67 ((mask_cont d).2 h)))]
                    · refine TL.p (EvP.move rfl) ?_
                      refine TL.gY rfl rfl rfl ?_
                      refine TL.p (EvP.move rfl) ?_
                      refine TL.gY rfl rfl rfl ?_
                      refine TL.p (EvP.move rfl) ?_
                      refine TL.gY rfl rfl rfl ?_
                      refine TL.p (EvP.move rfl) ?_
                      refine TL.gY rfl rfl rfl ?_
                      refine TL.p (EvP.add rfl rfl (by omega)) ?_
                      refine TL.gY rfl rfl rfl ?_
                      have hik : i + k < s.length := by omega
                      obtain ⟨d, hd⟩ : ∃ d, s[i + k]? = some d := ⟨_, List.getElem?_eq_getElem hik⟩
                      have hd256 := d.toNat_lt
                      have hbk : bt (s.drop i) k = d.toNat := bt_drop hd
                      refine TL.p (EvP.idxS Tryd.runUnderlying9 rfl rfl (by omega) (c := d) (by rw [show ((i : Int) + k).toNat = i + k from by omega]; exact hd)) ?_
                      refine TL.gY rfl rfl rfl ?_
                      refine TL.p (EvP.bit (.inl rfl) rfl rfl rfl) ?_
                      refine TL.gY rfl rfl rfl ?_
                      refine TL.dec (EvP.ne rfl rfl) (fun h67 => ?_) (fun h67 => ?_)
                      · refine TL.p (EvP.pickF rfl rfl) ?_
                        refine TL.nil ?_
                        refine TX.thenN rfl rfl ?_
                        refine TC.ctrue rfl ?_
                        refine TC.seq ?_
                        refine TC.region ?_
                        refine TL.p (EvP.assign rfl) ?_
                        refine TL.nil ?_
                        refine TX.thenN rfl rfl ?_
                        refine TC.ret ?_
                        refine TX.thenR ?_
                        refine TX.blkR ?_
                        refine TX.thenR ?_
                        refine TX.thenR ?_
                        refine TX.blkR ?_
                        refine TX.thenR ?_
                        refine TX.blkR ?_
                        refine TX.thenR ?_
                        refine TX.blkR ?_
                        refine TX.thenR ?_
                        refine TX.done rfl (Res.one rfl rfl) (fun w hs => Post0.mk hs ?_ (by repeat (first | exact Le.refl _ | exact Le.nil _ | refine Le.hit ?_ | refine Le.hit1 ?_ | refine Le.hit2 ?_ | refine Le.hit3 ?_ | refine Le.hit4 ?_ | refine Le.hit5 ?_ | refine Le.hit6 ?_ | refine Le.hit7 ?_ | refine Le.hit8 ?_ | refine Le.hit9 ?_ | refine Le.hit10 ?_ | refine Le.skip ?_)))
                        rw [← hv, vd_short hld hk1 (by omega) (by first | (left; omega) | (right; rw [hbk]; exact fun h => h67 ((mask_cont d).2 h)))]
                      · refine TL.p (EvP.pickF rfl rfl) ?_
                        refine TL.nil ?_
                        refine TX.thenN rfl rfl ?_
                        refine TC.cfalse rfl ?_
                        refine TC.skip ?_
                        refine TX.thenN rfl rfl ?_
                        refine TC.region ?_
                        refine TL.p (EvP.move rfl) ?_
                        refine TL.p (EvP.mul rfl rfl (by omega)) ?_
                        refine TL.p (EvP.move rfl) ?_
                        refine TL.p (EvP.move rfl) ?_
                        refine TL.p (EvP.move rfl) ?_
                        refine TL.p (EvP.add rfl rfl (by omega)) ?_
                        refine TL.p (EvP.idxS Tryd.runUnderlying9 rfl rfl (by omega) (c := d) (by rw [show ((i : Int) + k).toNat = i + k from by omega]; exact hd)) ?_
                        refine TL.p (EvP.bit (.inl rfl) rfl rfl (u8_and63 _ (by omega) (by omega))) ?_
                        refine TL.p (EvP.conv64 rfl (by omega) Tryd.runUnderlying5 Tryd.runUnderlying3) ?_
                        refine TL.p (EvP.isV (EvP.add rfl rfl (by omega)) (rr_step hk1 hbk)) ?_
                        refine TL.p (EvP.assign rfl) ?_
                        refine TL.nil ?_
                        refine TX.blkN ?_
                        refine TX.thenN rfl rfl ?_
                        refine TC.region ?_
                        refine TL.p (EvP.move rfl) ?_
                        refine TL.p (EvP.add rfl rfl (by omega)) ?_
                        refine TL.p (EvP.assign rfl) ?_
                        refine TL.nil ?_
                        refine TX.back (k + 1) (⟨by omega, by omega, all_next hall (by omega) hbk ((mask_cont d).1 (Decidable.of_not_not h67))⟩) (by omega) ⟨rfl, rfl, rfl, rfl, rfl, rfl, rfl, trivial⟩ (by repeat (first | exact Le.refl _ | exact Le.nil _ | refine Le.hit ?_ | refine Le.hit1 ?_ | refine Le.hit2 ?_ | refine Le.hit3 ?_ | refine Le.hit4 ?_ | refine Le.hit5 ?_ | refine Le.hit6 ?_ | refine Le.hit7 ?_ | refine Le.hit8 ?_ | refine Le.hit9 ?_ | refine Le.hit10 ?_ | refine Le.skip ?_))
                  · refine TL.nil ?_
                    refine TX.thenN rfl rfl ?_
                    refine TC.cfalse rfl ?_
                    refine TC.exit ?_
                    refine TX.thenE ?_
                    refine TX.thenE ?_
                    refine TX.blkH ?_
                    refine TX.thenN rfl rfl ?_
                    refine TC.seq ?_
                    refine TC.seq ?_
                    refine TC.region ?_
                    have hk3 : k = 4 := by omega
                    subst hk3
                    refine TL.p (EvP.move rfl) ?_
                    refine TL.p (EvP.move rfl) ?_
                    refine TL.dec (EvP.lt rfl rfl) (fun h81 => ?_) (fun h81 => ?_)
                    · refine TL.p (EvP.move rfl) ?_
                      refine TL.gN rfl rfl rfl ?_
                      refine TL.gN rfl rfl rfl ?_
                      refine TL.p (EvP.pickT rfl rfl) ?_
                      refine TL.p (EvP.move rfl) ?_
                      refine TL.gN rfl rfl rfl ?_
                      refine TL.gN rfl rfl rfl ?_
                      refine TL.gN rfl rfl rfl ?_
                      refine TL.gU rfl rfl ?_
                      refine TL.gU rfl rfl ?_
                      refine TL.gN rfl rfl rfl ?_
                      refine TL.p (EvP.pickT rfl rfl) ?_
                      refine TL.nil ?_
                      refine TX.thenN rfl rfl ?_
                      refine TC.ctrue rfl ?_
                      refine TC.seq ?_
                      refine TC.region ?_
                      refine TL.p (EvP.assign rfl) ?_
                      refine TL.nil ?_
                      refine TX.thenN rfl rfl ?_
                      refine TC.ret ?_
                      refine TX.thenR ?_
                      refine TX.blkR ?_
                      refine TX.thenR ?_
                      refine TX.blkR ?_
                      refine TX.thenR ?_
                      refine TX.done rfl (Res.one rfl rfl) (fun w hs => Post0.mk hs ?_ (by repeat (first | exact Le.refl _ | exact Le.nil _ | refine Le.hit ?_ | refine Le.hit1 ?_ | refine Le.hit2 ?_ | refine Le.hit3 ?_ | refine Le.hit4 ?_ | refine Le.hit5 ?_ | refine Le.hit6 ?_ | refine Le.hit7 ?_ | refine Le.hit8 ?_ | refine Le.hit9 ?_ | refine Le.hit10 ?_ | refine Le.skip ?_)))
                      rw [← hv, vd_bad3 hld hall (by omega)]
                    · refine TL.p (EvP.move rfl) ?_
                      refine TL.gY rfl rfl rfl ?_
                      refine TL.p (EvP.move rfl) ?_
                      refine TL.gY rfl rfl rfl ?_
                      refine TL.dec (EvP.gt rfl rfl) (fun h84 => ?_) (fun h84 => ?_)
                      · refine TL.p (EvP.pickF rfl rfl) ?_
                        refine TL.p (EvP.move rfl) ?_
                        refine TL.gN rfl rfl rfl ?_
                        refine TL.gN rfl rfl rfl ?_
                        refine TL.gN rfl rfl rfl ?_
                        refine TL.gU rfl rfl ?_
                        refine TL.gU rfl rfl ?_
                        refine TL.gN rfl rfl rfl ?_
                        refine TL.p (EvP.pickT rfl rfl) ?_
                        refine TL.nil ?_
                        refine TX.thenN rfl rfl ?_
                        refine TC.ctrue rfl ?_
                        refine TC.seq ?_
                        refine TC.region ?_
                        refine TL.p (EvP.assign rfl) ?_
                        refine TL.nil ?_
                        refine TX.thenN rfl rfl ?_
                        refine TC.ret ?_
                        refine TX.thenR ?_
                        refine TX.blkR ?_
                        refine TX.thenR ?_
                        refine TX.blkR ?_
                        refine TX.thenR ?_
                        refine TX.done rfl (Res.one rfl rfl) (fun w hs => Post0.mk hs ?_ (by repeat (first | exact Le.refl _ | exact Le.nil _ | refine Le.hit ?_ | refine Le.hit1 ?_ | refine Le.hit2 ?_ | refine Le.hit3 ?_ | refine Le.hit4 ?_ | refine Le.hit5 ?_ | refine Le.hit6 ?_ | refine Le.hit7 ?_ | refine Le.hit8 ?_ | refine Le.hit9 ?_ | refine Le.hit10 ?_ | refine Le.skip ?_)))
                        rw [← hv, vd_bad3 hld hall (by omega)]
                      · refine TL.p (EvP.pickF rfl rfl) ?_
                        refine TL.p (EvP.move rfl) ?_
                        refine TL.gY rfl rfl rfl ?_
                        refine TL.p (EvP.move rfl) ?_
                        refine TL.gY rfl rfl rfl ?_
                        refine TL.dec (EvP.ge rfl rfl) (fun h88 => ?_) (fun h88 => ?_)
                        · refine TL.gY rfl rfl rfl ?_
                          refine TL.p (EvP.move rfl) ?_
                          refine TL.gY rfl rfl rfl ?_
                          refine TL.p (EvP.move rfl) ?_
                          refine TL.gY rfl rfl rfl ?_
                          refine TL.dec (EvP.lt rfl rfl) (fun h91 => ?_) (fun h91 => ?_)
                          · refine TL.gY rfl rfl rfl ?_
                            refine TL.p (EvP.pickT rfl rfl) ?_
                            refine TL.p (EvP.pickF rfl rfl) ?_
                            refine TL.nil ?_
                            refine TX.thenN rfl rfl ?_
                            refine TC.ctrue rfl ?_
                            refine TC.seq ?_
                            refine TC.region ?_
                            refine TL.p (EvP.assign rfl) ?_
                            refine TL.nil ?_
                            refine TX.thenN rfl rfl ?_
                            refine TC.ret ?_
                            refine TX.thenR ?_
                            refine TX.blkR ?_
                            refine TX.thenR ?_
                            refine TX.blkR ?_
                            refine TX.thenR ?_
                            refine TX.done rfl (Res.one rfl rfl) (fun w hs => Post0.mk hs ?_ (by repeat (first | exact Le.refl _ | exact Le.nil _ | refine Le.hit ?_ | refine Le.hit1 ?_ | refine Le.hit2 ?_ | refine Le.hit3 ?_ | refine Le.hit4 ?_ | refine Le.hit5 ?_ | refine Le.hit6 ?_ | refine Le.hit7 ?_ | refine Le.hit8 ?_ | refine Le.hit9 ?_ | refine Le.hit10 ?_ | refine Le.skip ?_)))
                            rw [← hv, vd_bad3 hld hall (by omega)]
                          · refine TL.gY rfl rfl rfl ?_
                            refine TL.p (EvP.pickT rfl rfl) ?_
                            refine TL.p (EvP.pickF rfl rfl) ?_
                            refine TL.nil ?_
                            refine TX.thenN rfl rfl ?_
                            refine TC.cfalse rfl ?_
                            refine TC.skip ?_
                            refine TX.thenN rfl rfl ?_
                            refine TC.region ?_
                            refine TL.p (EvP.move rfl) ?_
                            refine TL.p (EvP.move rfl) ?_
                            refine TL.p (EvP.add rfl rfl (by omega)) ?_
                            refine TL.p (EvP.add rfl rfl (by omega)) ?_
                            refine TL.p (EvP.assign rfl) ?_
                            refine TL.nil ?_
                            refine TX.blkN ?_
                            have hln := (hall 3 (by omega) (by omega)).1
                            refine TX.back (i + 3 + 1) (⟨by omega, (vd_next3 hld hall (by omega)).trans hv⟩) (by omega) ⟨rfl, rfl, trivial⟩ (by repeat (first | exact Le.refl _ | exact Le.nil _ | refine Le.hit ?_ | refine Le.hit1 ?_ | refine Le.hit2 ?_ | refine Le.hit3 ?_ | refine Le.hit4 ?_ | refine Le.hit5 ?_ | refine Le.hit6 ?_ | refine Le.hit7 ?_ | refine Le.hit8 ?_ | refine Le.hit9 ?_ | refine Le.hit10 ?_ | refine Le.skip ?_))
                        · refine TL.gY rfl rfl rfl ?_
                          refine TL.p (EvP.move rfl) ?_
                          refine TL.gN rfl rfl rfl ?_
                          refine TL.gN rfl rfl rfl ?_
                          refine TL.gY rfl rfl rfl ?_
                          refine TL.p (EvP.pickF rfl rfl) ?_
                          refine TL.p (EvP.pickF rfl rfl) ?_
                          refine TL.nil ?_
                          refine TX.thenN rfl rfl ?_
                          refine TC.cfalse rfl ?_
                          refine TC.skip ?_
                          refine TX.thenN rfl rfl ?_
                          refine TC.region ?_
                          refine TL.p (EvP.move rfl) ?_
                          refine TL.p (EvP.move rfl) ?_
                          refine TL.p (EvP.add rfl rfl (by omega)) ?_
                          refine TL.p (EvP.add rfl rfl (by omega)) ?_
                          refine TL.p (EvP.assign rfl) ?_
                          refine TL.nil ?_
                          refine TX.blkN ?_
                          have hln := (hall 3 (by omega) (by omega)).1
                          refine TX.back (i + 3 + 1) (⟨by omega, (vd_next3 hld hall (by omega)).trans hv⟩) (by omega) ⟨rfl, rfl, trivial⟩ (by repeat (first | exact Le.refl _ | exact Le.nil _ | refine Le.hit ?_ | refine Le.hit1 ?_ | refine Le.hit2 ?_ | refine Le.hit3 ?_ | refine Le.hit4 ?_ | refine Le.hit5 ?_ | refine Le.hit6 ?_ | refine Le.hit7 ?_ | refine Le.hit8 ?_ | refine Le.hit9 ?_ | refine Le.hit10 ?_ | refine Le.skip ?_))
                · refine TL.p (EvP.pickT rfl rfl) ?_
                  refine TL.p (EvP.assign rfl) ?_
                  refine TL.nil ?_
                  refine TX.thenN rfl rfl ?_
                  refine TC.cfalse rfl ?_
                  refine TC.seq ?_
                  refine TC.region ?_
                  refine TL.p (EvP.assign rfl) ?_
                  refine TL.nil ?_
                  refine TX.thenN rfl rfl ?_
                  refine TC.ret ?_
                  refine TX.blkR ?_
                  refine TX.thenR ?_
                  refine TX.blkR ?_
                  refine TX.thenR ?_
                  refine TX.blkR ?_
                  refine TX.thenR ?_
                  refine TX.done rfl (Res.one rfl rfl) (fun w hs => Post0.mk hs ?_ (by repeat (first | exact Le.refl _ | exact Le.nil _ | refine Le.hit ?_ | refine Le.hit1 ?_ | refine Le.hit2 ?_ | refine Le.hit3 ?_ | refine Le.hit4 ?_ | refine Le.hit5 ?_ | refine Le.hit6 ?_ | refine Le.hit7 ?_ | refine Le.hit8 ?_ | refine Le.hit9 ?_ | refine Le.hit10 ?_ | refine Le.skip ?_)))
                  rw [← hv, vd_lead hne (by omega)]
              · refine TL.p (EvP.move rfl) ?_
                refine TL.gN rfl rfl rfl ?_
                refine TL.gN rfl rfl rfl ?_
                refine TL.p (EvP.pickF rfl rfl) ?_
                refine TL.p (EvP.assign rfl) ?_
                refine TL.nil ?_
                refine TX.thenN rfl rfl ?_
                refine TC.cfalse rfl ?_
                refine TC.seq ?_
                refine TC.region ?_
                refine TL.p (EvP.assign rfl) ?_
                refine TL.nil ?_
                refine TX.thenN rfl rfl ?_
                refine TC.ret ?_
                refine TX.blkR ?_
                refine TX.thenR ?_
                refine TX.blkR ?_
                refine TX.thenR ?_
                refine TX.blkR ?_
                refine TX.thenR ?_
                refine TX.done rfl (Res.one rfl rfl) (fun w hs => Post0.mk hs ?_ (by repeat (first | exact Le.refl _ | exact Le.nil _ | refine Le.hit ?_ | refine Le.hit1 ?_ | refine Le.hit2 ?_ | refine Le.hit3 ?_ | refine Le.hit4 ?_ | refine Le.hit5 ?_ | refine Le.hit6 ?_ | refine Le.hit7 ?_ | refine Le.hit8 ?_ | refine Le.hit9 ?_ | refine Le.hit10 ?_ | refine Le.skip ?_)))
                rw [← hv, vd_lead hne (by omega)]
          · refine TL.p (EvP.move rfl) ?_
            refine TL.gN rfl rfl rfl ?_
            refine TL.gN rfl rfl rfl ?_
            refine TL.p (EvP.pickF rfl rfl) ?_
            refine TL.p (EvP.assign rfl) ?_
            refine TL.nil ?_
            refine TX.thenN rfl rfl ?_
            refine TC.cfalse rfl ?_
            refine TC.seq ?_
            refine TC.region ?_
            refine TL.p (EvP.move rfl) ?_
            refine TL.dec (EvP.ge rfl rfl) (fun h42 => ?_) (fun h42 => ?_)
            · refine TL.p (EvP.move rfl) ?_
              refine TL.gY rfl rfl rfl ?_
              refine TL.p (EvP.move rfl) ?_
              refine TL.gY rfl rfl rfl ?_
              refine TL.dec (EvP.lt rfl rfl) (fun h45 => ?_) (fun h45 => ?_)
              · refine TL.p (EvP.pickT rfl rfl) ?_
                refine TL.p (EvP.assign rfl) ?_
                refine TL.nil ?_
                refine TX.thenN rfl rfl ?_
                refine TC.ctrue rfl ?_
                refine TC.seq ?_
                refine TC.region ?_
                refine TL.p (EvP.assign rfl) ?_
                refine TL.nil ?_
                refine TX.thenN rfl rfl ?_
                refine TC.seq ?_
                refine TC.region ?_
                refine TL.p (EvP.assign rfl) ?_
                refine TL.nil ?_
                refine TX.thenN rfl rfl ?_
                refine TC.region ?_
                refine TL.p (EvP.move rfl) ?_
                refine TL.p (EvP.isV (EvP.bit (.inl rfl) rfl rfl (and7i (by omega) (by omega))) (rr_start (m := 8) hb0)) ?_
                refine TL.p (EvP.assign rfl) ?_
                refine TL.nil ?_
                refine TX.blkN ?_
                refine TX.thenN rfl rfl ?_
                refine TC.seq ?_
                refine TC.seq ?_
                refine TC.region ?_
                refine TL.p (EvP.assign rfl) ?_
                refine TL.nil ?_
                refine TX.thenN rfl rfl ?_
                refine TC.block ?_
                refine TC.loop (ι := Nat) (fun k => [(0, sv s), (3, .int .i64 i), (4, .int .i64 c.toNat), (5, .int .i64 3), (6, .int .i64 65536), (7, .int .i64 (rr (s.drop i) 8 k : Nat)), (8, .int .i64 k)]) (fun k => R) (fun k => 1 ≤ k ∧ k ≤ 4 ∧ ∀ j, 1 ≤ j → j < k → j < (s.drop i).length ∧ cont (bt (s.drop i) j)) (fun k => 4 - k) (1) (⟨by omega, by omega, fun j h1 h2 => absurd h2 (by omega)⟩) ⟨rfl, rfl, rfl, rfl, rfl, rfl, rfl, trivial⟩ (by repeat (first | exact Le.refl _ | exact Le.nil _ | refine Le.hit ?_ | refine Le.hit1 ?_ | refine Le.hit2 ?_ | refine Le.hit3 ?_ | refine Le.hit4 ?_ | refine Le.hit5 ?_ | refine Le.hit6 ?_ | refine Le.hit7 ?_ | refine Le.hit8 ?_ | refine Le.hit9 ?_ | refine Le.hit10 ?_ | refine Le.skip ?_)) ?_
                rintro k ⟨hk1, hk2, hall⟩
                change TC _ _ [(0, sv s), (3, .int .i64 i), (4, .int .i64 c.toNat), (5, .int .i64 3), (6, .int .i64 65536), (7, .int .i64 (rr (s.drop i) 8 k : Nat)), (8, .int .i64 k)] (R) _
                have hrr := rr_lt (l := s.drop i) (m := 8) (k := k) (by omega) (by omega) (by omega)
                have hdl : (s.drop i).length = s.length - i := List.length_drop
                have hld : lead 3 (bt (s.drop i) 0) := by unfold lead; omega
                refine TC.seq ?_
                refine TC.seq ?_
                refine TC.region ?_
                refine TL.p (EvP.move rfl) ?_
                refine TL.p (EvP.move rfl) ?_
                refine TL.dec (EvP.le rfl rfl) (fun h51 => ?_) (fun h51 => ?_)
                · refine TL.nil ?_
                  refine TX.thenN rfl rfl ?_
                  refine TC.ctrue rfl ?_
                  refine TC.skip ?_
                  refine TX.thenN rfl rfl ?_
                  refine TC.seq ?_
                  refine TC.block ?_
                  refine TC.seq ?_
                  refine TC.seq ?_
                  refine TC.region ?_
                  refine TL.p (EvP.move rfl) ?_
                  refine TL.p (EvP.move rfl) ?_
                  refine TL.p (EvP.add rfl rfl (by omega)) ?_
                  refine TL.p (EvP.move rfl) ?_
                  refine TL.p (EvP.lenL Tryd.runUnderlying9 rfl) ?_
                  refine TL.dec (EvP.ge rfl rfl) (fun h59 => ?_) (fun h59 => ?_)
                  · refine TL.p (EvP.move rfl) ?_
                    refine TL.gN rfl rfl rfl ?_
                    refine TL.gN rfl rfl rfl ?_
                    refine TL.gN rfl rfl rfl ?_
                    refine TL.gN rfl rfl rfl ?_
                    refine TL.gN rfl rfl rfl ?_
                    refine TL.gN rfl rfl rfl ?_
                    refine TL.gN rfl rfl rfl ?_
                    refine TL.p (EvP.pickT rfl rfl) ?_
                    refine TL.nil ?_
                    refine TX.thenN rfl rfl ?_
                    refine TC.ctrue rfl ?_
                    refine TC.seq ?_
                    refine TC.region ?_
                    refine TL.p (EvP.assign rfl) ?_
                    refine TL.nil ?_
                    refine TX.thenN rfl rfl ?_
                    refine TC.ret ?_
                    refine TX.thenR ?_
                    refine TX.blkR ?_
                    refine TX.thenR ?_
                    refine TX.thenR ?_
                    refine TX.blkR ?_
                    refine TX.thenR ?_
                    refine TX.blkR ?_
                    refine TX.thenR ?_
                    refine TX.blkR ?_
                    refine TX.thenR ?_
                    refine TX.done rfl (Res.one rfl rfl) (fun w hs => Post0.mk hs ?_ (by repeat (first | exact Le.refl _ | exact Le.nil _ | refine Le.hit ?_ | refine Le.hit1 ?_ | refine Le.hit2 ?_ | refine Le.hit3 ?_ | refine Le.hit4 ?_ | refine Le.hit5 ?_ | refine Le.hit6 ?_ | refine Le.hit7 ?_ | refine Le.hit8 ?_ | refine Le.hit9 ?_ | refine Le.hit10 ?_ | refine Le.skip ?_)))
                    rw [← hv, vd_short hld hk1 (by omega) (by first | (left; omega) | (right; rw [hbk]; exact fun h => h67 ((mask_cont d).2 h)))]
                  · refine TL.p (EvP.move rfl) ?_
                    refine TL.gY rfl rfl rfl ?_
                    refine TL.p (EvP.move rfl) ?_
                    refine TL.gY rfl rfl rfl ?_
                    refine TL.p (EvP.move rfl) ?_
                    refine TL.gY rfl rfl rfl ?_
                    refine TL.p (EvP.move rfl) ?_
                    refine TL.gY rfl rfl rfl ?_
                    refine TL.p (EvP.add rfl rfl (by omega)) ?_
                    refine TL.gY rfl rfl rfl ?_
                    have hik : i + k < s.length := by omega
                    obtain ⟨d, hd⟩ : ∃ d, s[i + k]? = some d := ⟨_, List.getElem?_eq_getElem hik⟩
                    have hd256 := d.toNat_lt
                    have hbk : bt (s.drop i) k = d.toNat := bt_drop hd
                    refine TL.p (EvP.idxS Tryd.runUnderlying9 rfl rfl (by omega) (c := d) (by rw [show ((i : Int) + k).toNat = i + k from by omega]; exact hd)) ?_
                    refine TL.gY rfl rfl rfl ?_
                    refine TL.p (EvP.bit (.inl rfl) rfl rfl rfl) ?_
                    refine TL.gY rfl rfl rfl ?_
                    refine TL.dec (EvP.ne rfl rfl) (fun h67 => ?_) (fun h67 => ?_)
                    · refine TL.p (EvP.pickF rfl rfl) ?_
                      refine TL.nil ?_
                      refine TX.thenN rfl rfl ?_
                      refine TC.ctrue rfl ?_
                      refine TC.seq ?_
                      refine TC.region ?_
                      refine TL.p (EvP.assign rfl) ?_
                      refine TL.nil ?_
                      refine TX.thenN rfl rfl ?_
                      refine TC.ret ?_
                      refine TX.thenR ?_
                      refine TX.blkR ?_
                      refine TX.thenR ?_
                      refine TX.thenR ?_
                      refine TX.blkR ?_
                      refine TX.thenR ?_
                      refine TX.blkR ?_
                      refine TX.thenR ?_
                      refine TX.blkR ?_
                      refine TX.thenR ?_
                      refine TX.done rfl (Res.one rfl rfl) (fun w hs => Post0.mk hs ?_ (by repeat (first | exact Le.refl _ | exact Le.nil _ | refine Le.hit ?_ | refine Le.hit1 ?_ | refine Le.hit2 ?_ | refine Le.hit3 ?_ | refine Le.hit4 ?_ | refine Le.hit5 ?_ | refine Le.hit6 ?_ | refine Le.hit7 ?_ | refine Le.hit8 ?_ | refine Le.hit9 ?_ | refine Le.hit10 ?_ | refine Le.skip ?_)))
                      rw [← hv, vd_short hld hk1 (by omega) (by first | (left; omega) | (right; rw [hbk]; exact fun h => h67 ((mask_cont d).2 h)))]
                    · refine TL.p (EvP.pickF rfl rfl) ?_
                      refine TL.nil ?_
                      refine TX.thenN rfl rfl ?_
                      refine TC.cfalse rfl ?_
                      refine TC.skip ?_
                      refine TX.thenN rfl rfl ?_
                      refine TC.region ?_
                      refine TL.p (EvP.move rfl) ?_
                      refine TL.p (EvP.mul rfl rfl (by omega)) ?_
                      refine TL.p (EvP.move rfl) ?_
                      refine TL.p (EvP.move rfl) ?_
                      refine TL.p (EvP.move rfl) ?_
                      refine TL.p (EvP.add rfl rfl (by omega)) ?_
                      refine TL.p (EvP.idxS Tryd.runUnderlying9 rfl rfl (by omega) (c := d) (by rw [show ((i : Int) + k).toNat = i + k from by omega]; exact hd)) ?_
                      refine TL.p (EvP.bit (.inl rfl) rfl rfl (u8_and63 _ (by omega) (by omega))) ?_
                      refine TL.p (EvP.conv64 rfl (by omega) Tryd.runUnderlying5 Tryd.runUnderlying3) ?_
                      refine TL.p (EvP.isV (EvP.add rfl rfl (by omega)) (rr_step hk1 hbk)) ?_
                      refine TL.p (EvP.assign rfl) ?_
                      refine TL.nil ?_
                      refine TX.blkN ?_
                      refine TX.thenN rfl rfl ?_
                      refine TC.region ?_
                      refine TL.p (EvP.move rfl) ?_
                      refine TL.p (EvP.add rfl rfl (by omega)) ?_
                      refine TL.p (EvP.assign rfl) ?_
                      refine TL.nil ?_
                      refine TX.back (k + 1) (⟨by omega, by omega, all_next hall (by omega) hbk ((mask_cont d).1 (Decidable.of_not_not h67))⟩) (by omega) ⟨rfl, rfl, rfl, rfl, rfl, rfl, rfl, trivial⟩ (by repeat (first | exact Le.refl _ | exact Le.nil _ | refine Le.hit ?_ | refine Le.hit1 ?_ | refine Le.hit2 ?_ | refine Le.hit3 ?_ | refine Le.hit4 ?_ | refine Le.hit5 ?_ | refine Le.hit6 ?_ | refine Le.hit7 ?_ | refine Le.hit8 ?_ | refine Le.hit9 ?_ | refine Le.hit10 ?_ | refine Le.skip ?_))
                · refine TL.nil ?_
                  refine TX.thenN rfl rfl ?_
                  refine TC.cfalse rfl ?_
                  refine TC.exit ?_
                  refine TX.thenE ?_
                  refine TX.thenE ?_
                  refine TX.blkH ?_
                  refine TX.thenN rfl rfl ?_
                  refine TC.seq ?_
                  refine TC.seq ?_
                  refine TC.region ?_
                  have hk3 : k = 4 := by omega
                  subst hk3
                  refine TL.p (EvP.move rfl) ?_
                  refine TL.p (EvP.move rfl) ?_
                  refine TL.dec (EvP.lt rfl rfl) (fun h81 => ?_) (fun h81 => ?_)
                  · refine TL.p (EvP.move rfl) ?_
                    refine TL.gN rfl rfl rfl ?_
                    refine TL.gN rfl rfl rfl ?_
                    refine TL.p (EvP.pickT rfl rfl) ?_
                    refine TL.p (EvP.move rfl) ?_
                    refine TL.gN rfl rfl rfl ?_
                    refine TL.gN rfl rfl rfl ?_
                    refine TL.gN rfl rfl rfl ?_
                    refine TL.gU rfl rfl ?_
                    refine TL.gU rfl rfl ?_
                    refine TL.gN rfl rfl rfl ?_
                    refine TL.p (EvP.pickT rfl rfl) ?_
                    refine TL.nil ?_
                    refine TX.thenN rfl rfl ?_
                    refine TC.ctrue rfl ?_
                    refine TC.seq ?_
                    refine TC.region ?_
                    refine TL.p (EvP.assign rfl) ?_
                    refine TL.nil ?_
                    refine TX.thenN rfl rfl ?_
                    refine TC.ret ?_
                    refine TX.thenR ?_
                    refine TX.blkR ?_
                    refine TX.thenR ?_
                    refine TX.blkR ?_
                    refine TX.thenR ?_
                    refine TX.done rfl (Res.one rfl rfl) (fun w hs => Post0.mk hs ?_ (by repeat (first | exact Le.refl _ | exact Le.nil _ | refine Le.hit ?_ | refine Le.hit1 ?_ | refine Le.hit2 ?_ | refine Le.hit3 ?_ | refine Le.hit4 ?_ | refine Le.hit5 ?_ | refine Le.hit6 ?_ | refine Le.hit7 ?_ | refine Le.hit8 ?_ | refine Le.hit9 ?_ | refine Le.hit10 ?_ | refine Le.skip ?_)))
                    rw [← hv, vd_bad3 hld hall (by omega)]
                  · refine TL.p (EvP.move rfl) ?_
                    refine TL.gY rfl rfl rfl ?_
                    refine TL.p (EvP.move rfl) ?_
                    refine TL.gY rfl rfl rfl ?_
                    refine TL.dec (EvP.gt rfl rfl) (fun h84 => ?_) (fun h84 => ?_)
                    · refine TL.p (EvP.pickF rfl rfl) ?_
                      refine TL.p (EvP.move rfl) ?_
                      refine TL.gN rfl rfl rfl ?_
                      refine TL.gN rfl rfl rfl ?_
                      refine TL.gN rfl rfl rfl ?_
                      refine TL.gU rfl rfl ?_
                      refine TL.gU rfl rfl ?_
                      refine TL.gN rfl rfl rfl ?_
                      refine TL.p (EvP.pickT rfl rfl) ?_
                      refine TL.nil ?_
                      refine TX.thenN rfl rfl ?_
                      refine TC.ctrue rfl ?_
                      refine TC.seq ?_
                      refine TC.region ?_
                      refine TL.p (EvP.assign rfl) ?_
                      refine TL.nil ?_
                      refine TX.thenN rfl rfl ?_
                      refine TC.ret ?_
                      refine TX.thenR ?_
                      refine TX.blkR ?_
                      refine TX.thenR ?_
                      refine TX.blkR ?_
                      refine TX.thenR ?_
                      refine TX.done rfl (Res.one rfl rfl) (fun w hs => Post0.mk hs ?_ (by repeat (first | exact Le.refl _ | exact Le.nil _ | refine Le.hit ?_ | refine Le.hit1 ?_ | refine Le.hit2 ?_ | refine Le.hit3 ?_ | refine Le.hit4 ?_ | refine Le.hit5 ?_ | refine Le.hit6 ?_ | refine Le.hit7 ?_ | refine Le.hit8 ?_ | refine Le.hit9 ?_ | refine Le.hit10 ?_ | refine Le.skip ?_)))
                      rw [← hv, vd_bad3 hld hall (by omega)]
                    · refine TL.p (EvP.pickF rfl rfl) ?_
                      refine TL.p (EvP.move rfl) ?_
                      refine TL.gY rfl rfl rfl ?_
                      refine TL.p (EvP.move rfl) ?_
                      refine TL.gY rfl rfl rfl ?_
                      refine TL.dec (EvP.ge rfl rfl) (fun h88 => ?_) (fun h88 => ?_)
                      · refine TL.gY rfl rfl rfl ?_
                        refine TL.p (EvP.move rfl) ?_
                        refine TL.gY rfl rfl rfl ?_
                        refine TL.p (EvP.move rfl) ?_
                        refine TL.gY rfl rfl rfl ?_
                        refine TL.dec (EvP.lt rfl rfl) (fun h91 => ?_) (fun h91 => ?_)
                        · refine TL.gY rfl rfl rfl ?_
                          refine TL.p (EvP.pickT rfl rfl) ?_
                          refine TL.p (EvP.pickF rfl rfl) ?_
                          refine TL.nil ?_
                          refine TX.thenN rfl rfl ?_
                          refine TC.ctrue rfl ?_
                          refine TC.seq ?_
                          refine TC.region ?_
                          refine TL.p (EvP.assign rfl) ?_
                          refine TL.nil ?_
                          refine TX.thenN rfl rfl ?_
                          refine TC.ret ?_
                          refine TX.thenR ?_
                          refine TX.blkR ?_
                          refine TX.thenR ?_
                          refine TX.blkR ?_
                          refine TX.thenR ?_
                          refine TX.done rfl (Res.one rfl rfl) (fun w hs => Post0.mk hs ?_ (by repeat (first | exact Le.refl _ | exact Le.nil _ | refine Le.hit ?_ | refine Le.hit1 ?_ | refine Le.hit2 ?_ | refine Le.hit3 ?_ | refine Le.hit4 ?_ | refine Le.hit5 ?_ | refine Le.hit6 ?_ | refine Le.hit7 ?_ | refine Le.hit8 ?_ | refine Le.hit9 ?_ | refine Le.hit10 ?_ | refine Le.skip ?_)))
                          rw [← hv, vd_bad3 hld hall (by omega)]
                        · refine TL.gY rfl rfl rfl ?_
                          refine TL.p (EvP.pickT rfl rfl) ?_
                          refine TL.p (EvP.pickF rfl rfl) ?_
                          refine TL.nil ?_
                          refine TX.thenN rfl rfl ?_
                          refine TC.cfalse rfl ?_
                          refine TC.skip ?_
                          refine TX.thenN rfl rfl ?_
                          refine TC.region ?_
                          refine TL.p (EvP.move rfl) ?_
                          refine TL.p (EvP.move rfl) ?_
                          refine TL.p (EvP.add rfl rfl (by omega)) ?_
                          refine TL.p (EvP.add rfl rfl (by omega)) ?_
                          refine TL.p (EvP.assign rfl) ?_
                          refine TL.nil ?_
                          refine TX.blkN ?_
                          have hln := (hall 3 (by omega) (by omega)).1
                          refine TX.back (i + 3 + 1) (⟨by omega, (vd_next3 hld hall (by omega)).trans hv⟩) (by omega) ⟨rfl, rfl, trivial⟩ (by repeat (first | exact Le.refl _ | exact Le.nil _ | refine Le.hit ?_ | refine Le.hit1 ?_ | refine Le.hit2 ?_ | refine Le.hit3 ?_ | refine Le.hit4 ?_ | refine Le.hit5 ?_ | refine Le.hit6 ?_ | refine Le.hit7 ?_ | refine Le.hit8 ?_ | refine Le.hit9 ?_ | refine Le.hit10 ?_ | refine Le.skip ?_))
                      · refine TL.gY rfl rfl rfl ?_
                        refine TL.p (EvP.move rfl) ?_
                        refine TL.gN rfl rfl rfl ?_
                        refine TL.gN rfl rfl rfl ?_
                        refine TL.gY rfl rfl rfl ?_
                        refine TL.p (EvP.pickF rfl rfl) ?_
                        refine TL.p (EvP.pickF rfl rfl) ?_
                        refine TL.nil ?_
                        refine TX.thenN rfl rfl ?_
                        refine TC.cfalse rfl ?_
                        refine TC.skip ?_
                        refine TX.thenN rfl rfl ?_
                        refine TC.region ?_
                        refine TL.p (EvP.move rfl) ?_
                        refine TL.p (EvP.move rfl) ?_
                        refine TL.p (EvP.add rfl rfl (by omega)) ?_
                        refine TL.p (EvP.add rfl rfl (by omega)) ?_
                        refine TL.p (EvP.assign rfl) ?_
                        refine TL.nil ?_
                        refine TX.blkN ?_
                        have hln := (hall 3 (by omega) (by omega)).1
                        refine TX.back (i + 3 + 1) (⟨by omega, (vd_next3 hld hall (by omega)).trans hv⟩) (by omega) ⟨rfl, rfl, trivial⟩ (by repeat (first | exact Le.refl _ | exact Le.nil _ | refine Le.hit ?_ | refine Le.hit1 ?_ | refine Le.hit2 ?_ | refine Le.hit3 ?_ | refine Le.hit4 ?_ | refine Le.hit5 ?_ | refine Le.hit6 ?_ | refine Le.hit7 ?_ | refine Le.hit8 ?_ | refine Le.hit9 ?_ | refine Le.hit10 ?_ | refine Le.skip ?_))
              · refine TL.p (EvP.pickT rfl rfl) ?_
                refine TL.p (EvP.assign rfl) ?_
                refine TL.nil ?_
                refine TX.thenN rfl rfl ?_
                refine TC.cfalse rfl ?_
                refine TC.seq ?_
                refine TC.region ?_
                refine TL.p (EvP.assign rfl) ?_
                refine TL.nil ?_
                refine TX.thenN rfl rfl ?_
                refine TC.ret ?_
                refine TX.blkR ?_
                refine TX.thenR ?_
                refine TX.blkR ?_
                refine TX.thenR ?_
                refine TX.blkR ?_
                refine TX.thenR ?_
                refine TX.done rfl (Res.one rfl rfl) (fun w hs => Post0.mk hs ?_ (by repeat (first | exact Le.refl _ | exact Le.nil _ | refine Le.hit ?_ | refine Le.hit1 ?_ | refine Le.hit2 ?_ | refine Le.hit3 ?_ | refine Le.hit4 ?_ | refine Le.hit5 ?_ | refine Le.hit6 ?_ | refine Le.hit7 ?_ | refine Le.hit8 ?_ | refine Le.hit9 ?_ | refine Le.hit10 ?_ | refine Le.skip ?_)))
                rw [← hv, vd_lead hne (by omega)]
            · refine TL.p (EvP.move rfl) ?_
              refine TL.gN rfl rfl rfl ?_
              refine TL.gN rfl rfl rfl ?_
              refine TL.p (EvP.pickF rfl rfl) ?_
              refine TL.p (EvP.assign rfl) ?_
              refine TL.nil ?_
              refine TX.thenN rfl rfl ?_
              refine TC.cfalse rfl ?_
              refine TC.seq ?_
              refine TC.region ?_
              refine TL.p (EvP.assign rfl) ?_
              refine TL.nil ?_
              refine TX.thenN rfl rfl ?_
              refine TC.ret ?_
              refine TX.blkR ?_
              refine TX.thenR ?_
              refine TX.blkR ?_
              refine TX.thenR ?_
              refine TX.blkR ?_
              refine TX.thenR ?_
              refine TX.done rfl (Res.one rfl rfl) (fun w hs => Post0.mk hs ?_ (by repeat (first | exact Le.refl _ | exact Le.nil _ | refine Le.hit ?_ | refine Le.hit1 ?_ | refine Le.hit2 ?_ | refine Le.hit3 ?_ | refine Le.hit4 ?_ | refine Le.hit5 ?_ | refine Le.hit6 ?_ | refine Le.hit7 ?_ | refine Le.hit8 ?_ | refine Le.hit9 ?_ | refine Le.hit10 ?_ | refine Le.skip ?_)))
              rw [← hv, vd_lead hne (by omega)]
      · refine TL.p (EvP.move rfl) ?_
        refine TL.gN rfl rfl rfl ?_
        refine TL.gN rfl rfl rfl ?_
        refine TL.p (EvP.pickF rfl rfl) ?_
        refine TL.p (EvP.assign rfl) ?_
        refine TL.nil ?_
        refine TX.thenN rfl rfl ?_
        refine TC.cfalse rfl ?_
        refine TC.seq ?_
        refine TC.region ?_
        refine TL.p (EvP.move rfl) ?_
        refine TL.dec (EvP.ge rfl rfl) (fun h33 => ?_) (fun h33 => ?_)
        · refine TL.p (EvP.move rfl) ?_
          refine TL.gY rfl rfl rfl ?_
          refine TL.p (EvP.move rfl) ?_
          refine TL.gY rfl rfl rfl ?_
          refine TL.dec (EvP.lt rfl rfl) (fun h36 => ?_) (fun h36 => ?_)
          · refine TL.p (EvP.pickT rfl rfl) ?_
            refine TL.p (EvP.assign rfl) ?_
            refine TL.nil ?_
            refine TX.thenN rfl rfl ?_
            refine TC.ctrue rfl ?_
            refine TC.seq ?_
            refine TC.region ?_
            refine TL.p (EvP.assign rfl) ?_
            refine TL.nil ?_
            refine TX.thenN rfl rfl ?_
            refine TC.seq ?_
            refine TC.region ?_
            refine TL.p (EvP.assign rfl) ?_
            refine TL.nil ?_
            refine TX.thenN rfl rfl ?_
            refine TC.region ?_
            refine TL.p (EvP.move rfl) ?_
            refine TL.p (EvP.isV (EvP.bit (.inl rfl) rfl rfl (and15 (by omega) (by omega))) (rr_start (m := 16) hb0)) ?_
            refine TL.p (EvP.assign rfl) ?_
            refine TL.nil ?_
            refine TX.blkN ?_
            refine TX.thenN rfl rfl ?_
            refine TC.seq ?_
            refine TC.seq ?_
            refine TC.region ?_
            refine TL.p (EvP.assign rfl) ?_
            refine TL.nil ?_
            refine TX.thenN rfl rfl ?_
            refine TC.block ?_
            refine TC.loop (ι := Nat) (fun k => [(0, sv s), (3, .int .i64 i), (4, .int .i64 c.toNat), (5, .int .i64 2), (6, .int .i64 2048), (7, .int .i64 (rr (s.drop i) 16 k : Nat)), (8, .int .i64 k)]) (fun k => R) (fun k => 1 ≤ k ∧ k ≤ 3 ∧ ∀ j, 1 ≤ j → j < k → j < (s.drop i).length ∧ cont (bt (s.drop i) j)) (fun k => 3 - k) (1) (⟨by omega, by omega, fun j h1 h2 => absurd h2 (by omega)⟩) ⟨rfl, rfl, rfl, rfl, rfl, rfl, rfl, trivial⟩ (by repeat (first | exact Le.refl _ | exact Le.nil _ | refine Le.hit ?_ | refine Le.hit1 ?_ | refine Le.hit2 ?_ | refine Le.hit3 ?_ | refine Le.hit4 ?_ | refine Le.hit5 ?_ | refine Le.hit6 ?_ | refine Le.hit7 ?_ | refine Le.hit8 ?_ | refine Le.hit9 ?_ | refine Le.hit10 ?_ | refine Le.skip ?_)) ?_
            rintro k ⟨hk1, hk2, hall⟩
            change TC _ _ [(0, sv s), (3, .int .i64 i), (4, .int .i64 c.toNat), (5, .int .i64 2), (6, .int .i64 2048), (7, .int .i64 (rr (s.drop i) 16 k : Nat)), (8, .int .i64 k)] (R) _
            have hrr := rr_lt (l := s.drop i) (m := 16) (k := k) (by omega) (by omega) (by omega)
            have hdl : (s.drop i).length = s.length - i := List.length_drop
            have hld : lead 2 (bt (s.drop i) 0) := by unfold lead; omega
            refine TC.seq ?_
            refine TC.seq ?_
            refine TC.region ?_
            refine TL.p (EvP.move rfl) ?_
            refine TL.p (EvP.move rfl) ?_
            refine TL.dec (EvP.le rfl rfl) (fun h51 => ?_) (fun h51 => ?_)
            · refine TL.nil ?_
              refine TX.thenN rfl rfl ?_
              refine TC.ctrue rfl ?_
              refine TC.skip ?_
              refine TX.thenN rfl rfl ?_
              refine TC.seq ?_
              refine TC.block ?_
              refine TC.seq ?_
              refine TC.seq ?_
              refine TC.region ?_
              refine TL.p (EvP.move rfl) ?_
              refine TL.p (EvP.move rfl) ?_
              refine TL.p (EvP.add rfl rfl (by omega)) ?_
              refine TL.p (EvP.move rfl) ?_
              refine TL.p (EvP.lenL Tryd.runUnderlying9 rfl) ?_
              refine TL.dec (EvP.ge rfl rfl) (fun h59 => ?_) (fun h59 => ?_)
              · refine TL.p (EvP.move rfl) ?_
                refine TL.gN rfl rfl rfl ?_
                refine TL.gN rfl rfl rfl ?_
                refine TL.gN rfl rfl rfl ?_
                refine TL.gN rfl rfl rfl ?_
                refine TL.gN rfl rfl rfl ?_
                refine TL.gN rfl rfl rfl ?_
                refine TL.gN rfl rfl rfl ?_
                refine TL.p (EvP.pickT rfl rfl) ?_
                refine TL.nil ?_
                refine TX.thenN rfl rfl ?_
                refine TC.ctrue rfl ?_
                refine TC.seq ?_
                refine TC.region ?_
                refine TL.p (EvP.assign rfl) ?_
                refine TL.nil ?_
                refine TX.thenN rfl rfl ?_
                refine TC.ret ?_
                refine TX.thenR ?_
                refine TX.blkR ?_
                refine TX.thenR ?_
                refine TX.thenR ?_
                refine TX.blkR ?_
                refine TX.thenR ?_
                refine TX.blkR ?_
                refine TX.thenR ?_
                refine TX.blkR ?_
                refine TX.thenR ?_
                refine TX.done rfl (Res.one rfl rfl) (fun w hs => Post0.mk hs ?_ (by repeat (first | exact Le.refl _ | exact Le.nil _ | refine Le.hit ?_ | refine Le.hit1 ?_ | refine Le.hit2 ?_ | refine Le.hit3 ?_ | refine Le.hit4 ?_ | refine Le.hit5 ?_ | refine Le.hit6 ?_ | refine Le.hit7 ?_ | refine Le.hit8 ?_ | refine Le.hit9 ?_ | refine Le.hit10 ?_ | refine Le.skip ?_)))
                rw [← hv, vd_short hld hk1 (by omega) (by first | (left; omega) | (right; rw [hbk]; exact fun h => h67 ((mask_cont d).2 h)))]
              · refine TL.p (EvP.move rfl) ?_
                refine TL.gY rfl rfl rfl ?_
                refine TL.p (EvP.move rfl) ?_
                refine TL.gY rfl rfl rfl ?_
                refine TL.p (EvP.move rfl) ?_
                refine TL.gY rfl rfl rfl ?_
                refine TL.p (EvP.move rfl) ?_
                refine TL.gY rfl rfl rfl ?_
                refine TL.p (EvP.add rfl rfl (by omega)) ?_
                refine TL.gY rfl rfl rfl ?_
                have hik : i + k < s.length := by omega
                obtain ⟨d, hd⟩ : ∃ d, s[i + k]? = some d := ⟨_, List.getElem?_eq_getElem hik⟩
                have hd256 := d.toNat_lt
                have hbk : bt (s.drop i) k = d.toNat := bt_drop hd
                refine TL.p (EvP.idxS Tryd.runUnderlying9 rfl rfl (by omega) (c := d) (by rw [show ((i : Int) + k).toNat = i + k from by omega]; exact hd)) ?_
                refine TL.gY rfl rfl rfl ?_
                refine TL.p (EvP.bit (.inl rfl) rfl rfl rfl) ?_
                refine TL.gY rfl rfl rfl ?_
                refine TL.dec (EvP.ne rfl rfl) (fun h67 => ?_) (fun h67 => ?_)
                · refine TL.p (EvP.pickF rfl rfl) ?_
                  refine TL.nil ?_
                  refine TX.thenN rfl rfl ?_
                  refine TC.ctrue rfl ?_
                  refine TC.seq ?_
                  refine TC.region ?_
                  refine TL.p (EvP.assign rfl) ?_
                  refine TL.nil ?_
                  refine TX.thenN rfl rfl ?_
                  refine TC.ret ?_
                  refine TX.thenR ?_
                  refine TX.blkR ?_
                  refine TX.thenR ?_
                  refine TX.thenR ?_
                  refine TX.blkR ?_
                  refine TX.thenR ?_
                  refine TX.blkR ?_
                  refine TX.thenR ?_
                  refine TX.blkR ?_
                  refine TX.thenR ?_
                  refine TX.done rfl (Res.one rfl rfl) (fun w hs => Post0.mk hs ?_ (by repeat (first | exact Le.refl _ | exact Le.nil _ | refine Le.hit ?_ | refine Le.hit1 ?_ | refine Le.hit2 ?_ | refine Le.hit3 ?_ | refine Le.hit4 ?_ | refine Le.hit5 ?_ | refine Le.hit6 ?_ | refine Le.hit7 ?_ | refine Le.hit8 ?_ | refine Le.hit9 ?_ | refine Le.hit10 ?_ | refine Le.skip ?_)))
                  rw [← hv, vd_short hld hk1 (by omega) (by first | (left; omega) | (right; rw [hbk]; exact fun h => h67 ((mask_cont d).2 h)))]
                · refine TL.p (EvP.pickF rfl rfl) ?_
                  refine TL.nil ?_
                  refine TX.thenN rfl rfl ?_
                  refine TC.cfalse rfl ?_
                  refine TC.skip ?_
                  refine TX.thenN rfl rfl ?_
                  refine TC.region ?_
                  refine TL.p (EvP.move rfl) ?_
                  refine TL.p (EvP.mul rfl rfl (by omega)) ?_
                  refine TL.p (EvP.move rfl) ?_
                  refine TL.p (EvP.move rfl) ?_
                  refine TL.p (EvP.move rfl) ?_
                  refine TL.p (EvP.add rfl rfl (by omega)) ?_
                  refine TL.p (EvP.idxS Tryd.runUnderlying9 rfl rfl (by omega) (c := d) (by rw [show ((i : Int) + k).toNat = i + k from by omega]; exact hd)) ?_
                  refine TL.p (EvP.bit (.inl rfl) rfl rfl (u8_and63 _ (by omega) (by omega))) ?_
                  refine TL.p (EvP.conv64 rfl (by omega) Tryd.runUnderlying5 Tryd.runUnderlying3) ?_
                  refine TL.p (EvP.isV (EvP.add rfl rfl (by omega)) (rr_step hk1 hbk)) ?_
                  refine TL.p (EvP.assign rfl) ?_
                  refine TL.nil ?_
                  refine TX.blkN ?_
                  refine TX.thenN rfl rfl ?_
                  refine TC.region ?_
                  refine TL.p (EvP.move rfl) ?_
                  refine TL.p (EvP.add rfl rfl (by omega)) ?_
                  refine TL.p (EvP.assign rfl) ?_
                  refine TL.nil ?_
                  refine TX.back (k + 1) (⟨by omega, by omega, all_next hall (by omega) hbk ((mask_cont d).1 (Decidable.of_not_not h67))⟩) (by omega) ⟨rfl, rfl, rfl, rfl, rfl, rfl, rfl, trivial⟩ (by repeat (first | exact Le.refl _ | exact Le.nil _ | refine Le.hit ?_ | refine Le.hit1 ?_ | refine Le.hit2 ?_ | refine Le.hit3 ?_ | refine Le.hit4 ?_ | refine Le.hit5 ?_ | refine Le.hit6 ?_ | refine Le.hit7 ?_ | refine Le.hit8 ?_ | refine Le.hit9 ?_ | refine Le.hit10 ?_ | refine Le.skip ?_))
            · refine TL.nil ?_
              refine TX.thenN rfl rfl ?_
              refine TC.cfalse rfl ?_
              refine TC.exit ?_
              refine TX.thenE ?_
              refine TX.thenE ?_
              refine TX.blkH ?_
              refine TX.thenN rfl rfl ?_
              refine TC.seq ?_
              refine TC.seq ?_
              refine TC.region ?_
              have hk3 : k = 3 := by omega
              subst hk3
              refine TL.p (EvP.move rfl) ?_
              refine TL.p (EvP.move rfl) ?_
              refine TL.dec (EvP.lt rfl rfl) (fun h81 => ?_) (fun h81 => ?_)
              · refine TL.p (EvP.move rfl) ?_
                refine TL.gN rfl rfl rfl ?_
                refine TL.gN rfl rfl rfl ?_
                refine TL.p (EvP.pickT rfl rfl) ?_
                refine TL.p (EvP.move rfl) ?_
                refine TL.gN rfl rfl rfl ?_
                refine TL.gN rfl rfl rfl ?_
                refine TL.gN rfl rfl rfl ?_
                refine TL.gU rfl rfl ?_
                refine TL.gU rfl rfl ?_
                refine TL.gN rfl rfl rfl ?_
                refine TL.p (EvP.pickT rfl rfl) ?_
                refine TL.nil ?_
                refine TX.thenN rfl rfl ?_
                refine TC.ctrue rfl ?_
                refine TC.seq ?_
                refine TC.region ?_
                refine TL.p (EvP.assign rfl) ?_
                refine TL.nil ?_
                refine TX.thenN rfl rfl ?_
                refine TC.ret ?_
                refine TX.thenR ?_
                refine TX.blkR ?_
                refine TX.thenR ?_
                refine TX.blkR ?_
                refine TX.thenR ?_
                refine TX.done rfl (Res.one rfl rfl) (fun w hs => Post0.mk hs ?_ (by repeat (first | exact Le.refl _ | exact Le.nil _ | refine Le.hit ?_ | refine Le.hit1 ?_ | refine Le.hit2 ?_ | refine Le.hit3 ?_ | refine Le.hit4 ?_ | refine Le.hit5 ?_ | refine Le.hit6 ?_ | refine Le.hit7 ?_ | refine Le.hit8 ?_ | refine Le.hit9 ?_ | refine Le.hit10 ?_ | refine Le.skip ?_)))
                rw [← hv, vd_bad2 hld hall (by omega)]
              · refine TL.p (EvP.move rfl) ?_
                refine TL.gY rfl rfl rfl ?_
                refine TL.p (EvP.move rfl) ?_
                refine TL.gY rfl rfl rfl ?_
                refine TL.dec (EvP.gt rfl rfl) (fun h84 => ?_) (fun h84 => ?_)
                · refine TL.p (EvP.pickF rfl rfl) ?_
                  refine TL.p (EvP.move rfl) ?_
                  refine TL.gN rfl rfl rfl ?_
                  refine TL.gN rfl rfl rfl ?_
                  refine TL.gN rfl rfl rfl ?_
                  refine TL.gU rfl rfl ?_
                  refine TL.gU rfl rfl ?_
                  refine TL.gN rfl rfl rfl ?_
                  refine TL.p (EvP.pickT rfl rfl) ?_
                  refine TL.nil ?_
                  refine TX.thenN rfl rfl ?_
                  refine TC.ctrue rfl ?_
                  refine TC.seq ?_
                  refine TC.region ?_
                  refine TL.p (EvP.assign rfl) ?_
                  refine TL.nil ?_
                  refine TX.thenN rfl rfl ?_
                  refine TC.ret ?_
                  refine TX.thenR ?_
                  refine TX.blkR ?_
                  refine TX.thenR ?_
                  refine TX.blkR ?_
                  refine TX.thenR ?_
                  refine TX.done rfl (Res.one rfl rfl) (fun w hs => Post0.mk hs ?_ (by repeat (first | exact Le.refl _ | exact Le.nil _ | refine Le.hit ?_ | refine Le.hit1 ?_ | refine Le.hit2 ?_ | refine Le.hit3 ?_ | refine Le.hit4 ?_ | refine Le.hit5 ?_ | refine Le.hit6 ?_ | refine Le.hit7 ?_ | refine Le.hit8 ?_ | refine Le.hit9 ?_ | refine Le.hit10 ?_ | refine Le.skip ?_)))
                  rw [← hv, vd_bad2 hld hall (by omega)]
                · refine TL.p (EvP.pickF rfl rfl) ?_
                  refine TL.p (EvP.move rfl) ?_
                  refine TL.gY rfl rfl rfl ?_
                  refine TL.p (EvP.move rfl) ?_
                  refine TL.gY rfl rfl rfl ?_
                  refine TL.dec (EvP.ge rfl rfl) (fun h88 => ?_) (fun h88 => ?_)
                  · refine TL.gY rfl rfl rfl ?_
                    refine TL.p (EvP.move rfl) ?_
                    refine TL.gY rfl rfl rfl ?_
                    refine TL.p (EvP.move rfl) ?_
                    refine TL.gY rfl rfl rfl ?_
                    refine TL.dec (EvP.lt rfl rfl) (fun h91 => ?_) (fun h91 => ?_)
                    · refine TL.gY rfl rfl rfl ?_
                      refine TL.p (EvP.pickT rfl rfl) ?_
                      refine TL.p (EvP.pickF rfl rfl) ?_
                      refine TL.nil ?_
                      refine TX.thenN rfl rfl ?_
                      refine TC.ctrue rfl ?_
                      refine TC.seq ?_
                      refine TC.region ?_
                      refine TL.p (EvP.assign rfl) ?_
                      refine TL.nil ?_
                      refine TX.thenN rfl rfl ?_
                      refine TC.ret ?_
                      refine TX.thenR ?_
                      refine TX.blkR ?_
                      refine TX.thenR ?_
                      refine TX.blkR ?_
                      refine TX.thenR ?_
                      refine TX.done rfl (Res.one rfl rfl) (fun w hs => Post0.mk hs ?_ (by repeat (first | exact Le.refl _ | exact Le.nil _ | refine Le.hit ?_ | refine Le.hit1 ?_ | refine Le.hit2 ?_ | refine Le.hit3 ?_ | refine Le.hit4 ?_ | refine Le.hit5 ?_ | refine Le.hit6 ?_ | refine Le.hit7 ?_ | refine Le.hit8 ?_ | refine Le.hit9 ?_ | refine Le.hit10 ?_ | refine Le.skip ?_)))
                      rw [← hv, vd_bad2 hld hall (by omega)]
                    · refine TL.gY rfl rfl rfl ?_
                      refine TL.p (EvP.pickT rfl rfl) ?_
                      refine TL.p (EvP.pickF rfl rfl) ?_
                      refine TL.nil ?_
                      refine TX.thenN rfl rfl ?_
                      refine TC.cfalse rfl ?_
                      refine TC.skip ?_
                      refine TX.thenN rfl rfl ?_
                      refine TC.region ?_
                      refine TL.p (EvP.move rfl) ?_
                      refine TL.p (EvP.move rfl) ?_
                      refine TL.p (EvP.add rfl rfl (by omega)) ?_
                      refine TL.p (EvP.add rfl rfl (by omega)) ?_
                      refine TL.p (EvP.assign rfl) ?_
                      refine TL.nil ?_
                      refine TX.blkN ?_
                      have hln := (hall 2 (by omega) (by omega)).1
                      refine TX.back (i + 2 + 1) (⟨by omega, (vd_next2 hld hall (by omega)).trans hv⟩) (by omega) ⟨rfl, rfl, trivial⟩ (by repeat (first | exact Le.refl _ | exact Le.nil _ | refine Le.hit ?_ | refine Le.hit1 ?_ | refine Le.hit2 ?_ | refine Le.hit3 ?_ | refine Le.hit4 ?_ | refine Le.hit5 ?_ | refine Le.hit6 ?_ | refine Le.hit7 ?_ | refine Le.hit8 ?_ | refine Le.hit9 ?_ | refine Le.hit10 ?_ | refine Le.skip ?_))
                  · refine TL.gY rfl rfl rfl ?_
                    refine TL.p (EvP.move rfl) ?_
                    refine TL.gN rfl rfl rfl ?_
                    refine TL.gN rfl rfl rfl ?_
                    refine TL.gY rfl rfl rfl ?_
                    refine TL.p (EvP.pickF rfl rfl) ?_
                    refine TL.p (EvP.pickF rfl rfl) ?_
                    refine TL.nil ?_
                    refine TX.thenN rfl rfl ?_
                    refine TC.cfalse rfl ?_
                    refine TC.skip ?_
                    refine TX.thenN rfl rfl ?_
                    refine TC.region ?_
                    refine TL.p (EvP.move rfl) ?_
                    refine TL.p (EvP.move rfl) ?_
                    refine TL.p (EvP.add rfl rfl (by omega)) ?_
                    refine TL.p (EvP.add rfl rfl (by omega)) ?_
                    refine TL.p (EvP.assign rfl) ?_
                    refine TL.nil ?_
                    refine TX.blkN ?_
                    have hln := (hall 2 (by omega) (by omega)).1
                    refine TX.back (i + 2 + 1) (⟨by omega, (vd_next2 hld hall (by omega)).trans hv⟩) (by omega) ⟨rfl, rfl, trivial⟩ (by repeat (first | exact Le.refl _ | exact Le.nil _ | refine Le.hit ?_ | refine Le.hit1 ?_ | refine Le.hit2 ?_ | refine Le.hit3 ?_ | refine Le.hit4 ?_ | refine Le.hit5 ?_ | refine Le.hit6 ?_ | refine Le.hit7 ?_ | refine Le.hit8 ?_ | refine Le.hit9 ?_ | refine Le.hit10 ?_ | refine Le.skip ?_))
          · refine TL.p (EvP.pickT rfl rfl) ?_
            refine TL.p (EvP.assign rfl) ?_
            refine TL.nil ?_
            refine TX.thenN rfl rfl ?_
            refine TC.cfalse rfl ?_
            refine TC.seq ?_
            refine TC.region ?_
            refine TL.p (EvP.move rfl) ?_
            refine TL.dec (EvP.ge rfl rfl) (fun h42 => ?_) (fun h42 => ?_)
            · refine TL.p (EvP.move rfl) ?_
              refine TL.gY rfl rfl rfl ?_
              refine TL.p (EvP.move rfl) ?_
              refine TL.gY rfl rfl rfl ?_
              refine TL.dec (EvP.lt rfl rfl) (fun h45 => ?_) (fun h45 => ?_)
              · refine TL.p (EvP.pickT rfl rfl) ?_
                refine TL.p (EvP.assign rfl) ?_
                refine TL.nil ?_
                refine TX.thenN rfl rfl ?_
                refine TC.ctrue rfl ?_
                refine TC.seq ?_
                refine TC.region ?_
                refine TL.p (EvP.assign rfl) ?_
                refine TL.nil ?_
                refine TX.thenN rfl rfl ?_
                refine TC.seq ?_
                refine TC.region ?_
                refine TL.p (EvP.assign rfl) ?_
                refine TL.nil ?_
                refine TX.thenN rfl rfl ?_
                refine TC.region ?_
                refine TL.p (EvP.move rfl) ?_
                refine TL.p (EvP.isV (EvP.bit (.inl rfl) rfl rfl (and7i (by omega) (by omega))) (rr_start (m := 8) hb0)) ?_
                refine TL.p (EvP.assign rfl) ?_
                refine TL.nil ?_
                refine TX.blkN ?_
                refine TX.thenN rfl rfl ?_
                refine TC.seq ?_
                refine TC.seq ?_
                refine TC.region ?_
                refine TL.p (EvP.assign rfl) ?_
                refine TL.nil ?_
                refine TX.thenN rfl rfl ?_
                refine TC.block ?_
                refine TC.loop (ι := Nat) (fun k => [(0, sv s), (3, .int .i64 i), (4, .int .i64 c.toNat), (5, .int .i64 3), (6, .int .i64 65536), (7, .int .i64 (rr (s.drop i) 8 k : Nat)), (8, .int .i64 k)]) (fun k => R) (fun k => 1 ≤ k ∧ k ≤ 4 ∧ ∀ j, 1 ≤ j → j < k → j < (s.drop i).length ∧ cont (bt (s.drop i) j)) (fun k => 4 - k) (1) (⟨by omega, by omega, fun j h1 h2 => absurd h2 (by omega)⟩) ⟨rfl, rfl, rfl, rfl, rfl, rfl, rfl, trivial⟩ (by repeat (first | exact Le.refl _ | exact Le.nil _ | refine Le.hit ?_ | refine Le.hit1 ?_ | refine Le.hit2 ?_ | refine Le.hit3 ?_ | refine Le.hit4 ?_ | refine Le.hit5 ?_ | refine Le.hit6 ?_ | refine Le.hit7 ?_ | refine Le.hit8 ?_ | refine Le.hit9 ?_ | refine Le.hit10 ?_ | refine Le.skip ?_)) ?_
                rintro k ⟨hk1, hk2, hall⟩
                change TC _ _ [(0, sv s), (3, .int .i64 i), (4, .int .i64 c.toNat), (5, .int .i64 3), (6, .int .i64 65536), (7, .int .i64 (rr (s.drop i) 8 k : Nat)), (8, .int .i64 k)] (R) _
                have hrr := rr_lt (l := s.drop i) (m := 8) (k := k) (by omega) (by omega) (by omega)
                have hdl : (s.drop i).length = s.length - i := List.length_drop
                have hld : lead 3 (bt (s.drop i) 0) := by unfold lead; omega
                refine TC.seq ?_
                refine TC.seq ?_
                refine TC.region ?_
                refine TL.p (EvP.move rfl) ?_
                refine TL.p (EvP.move rfl) ?_
                refine TL.dec (EvP.le rfl rfl) (fun h51 => ?_) (fun h51 => ?_)
                · refine TL.nil ?_
                  refine TX.thenN rfl rfl ?_
                  refine TC.ctrue rfl ?_
                  refine TC.skip ?_
                  refine TX.thenN rfl rfl ?_
                  refine TC.seq ?_
                  refine TC.block ?_
                  refine TC.seq ?_
                  refine TC.seq ?_
                  refine TC.region ?_
                  refine TL.p (EvP.move rfl) ?_
                  refine TL.p (EvP.move rfl) ?_
                  refine TL.p (EvP.add rfl rfl (by omega)) ?_
                  refine TL.p (EvP.move rfl) ?_
                  refine TL.p (EvP.lenL Tryd.runUnderlying9 rfl) ?_
                  refine TL.dec (EvP.ge rfl rfl) (fun h59 => ?_) (fun h59 => ?_)
                  · refine TL.p (EvP.move rfl) ?_
                    refine TL.gN rfl rfl rfl ?_
                    refine TL.gN rfl rfl rfl ?_
                    refine TL.gN rfl rfl rfl ?_
                    refine TL.gN rfl rfl rfl ?_
                    refine TL.gN rfl rfl rfl ?_
                    refine TL.gN rfl rfl rfl ?_
                    refine TL.gN rfl rfl rfl ?_
                    refine TL.p (EvP.pickT rfl rfl) ?_
                    refine TL.nil ?_
                    refine TX.thenN rfl rfl ?_
                    refine TC.ctrue rfl ?_
                    refine TC.seq ?_
                    refine TC.region ?_
                    refine TL.p (EvP.assign rfl) ?_
                    refine TL.nil ?_
                    refine TX.thenN rfl rfl ?_
                    refine TC.ret ?_
                    refine TX.thenR ?_
                    refine TX.blkR ?_
                    refine TX.thenR ?_
                    refine TX.thenR ?_
                    refine TX.blkR ?_
                    refine TX.thenR ?_
                    refine TX.blkR ?_
                    refine TX.thenR ?_
                    refine TX.blkR ?_
                    refine TX.thenR ?_
                    refine TX.done rfl (Res.one rfl rfl) (fun w hs => Post0.mk hs ?_ (by repeat (first | exact Le.refl _ | exact Le.nil _ | refine Le.hit ?_ | refine Le.hit1 ?_ | refine Le.hit2 ?_ | refine Le.hit3 ?_ | refine Le.hit4 ?_ | refine Le.hit5 ?_ | refine Le.hit6 ?_ | refine Le.hit7 ?_ | refine Le.hit8 ?_ | refine Le.hit9 ?_ | refine Le.hit10 ?_ | refine Le.skip ?_)))
                    rw [← hv, vd_short hld hk1 (by omega) (by first | (left; omega) | (right; rw [hbk]; exact fun h => h67 ((mask_cont d).2 h)))]
                  · refine TL.p (EvP.move rfl) ?_
                    refine TL.gY rfl rfl rfl ?_
                    refine TL.p (EvP.move rfl) ?_
                    refine TL.gY rfl rfl rfl ?_
                    refine TL.p (EvP.move rfl) ?_
                    refine TL.gY rfl rfl rfl ?_
                    refine TL.p (EvP.move rfl) ?_
                    refine TL.gY rfl rfl rfl ?_
                    refine TL.p (EvP.add rfl rfl (by omega)) ?_
                    refine TL.gY rfl rfl rfl ?_
                    have hik : i + k < s.length := by omega
                    obtain ⟨d, hd⟩ : ∃ d, s[i + k]? = some d := ⟨_, List.getElem?_eq_getElem hik⟩
                    have hd256 := d.toNat_lt
                    have hbk : bt (s.drop i) k = d.toNat := bt_drop hd
                    refine TL.p (EvP.idxS Tryd.runUnderlying9 rfl rfl (by omega) (c := d) (by rw [show ((i : Int) + k).toNat = i + k from by omega]; exact hd)) ?_
                    refine TL.gY rfl rfl rfl ?_
                    refine TL.p (EvP.bit (.inl rfl) rfl rfl rfl) ?_
                    refine TL.gY rfl rfl rfl ?_
                    refine TL.dec (EvP.ne rfl rfl) (fun h67 => ?_) (fun h67 => ?_)
                    · refine TL.p (EvP.pickF rfl rfl) ?_
                      refine TL.nil ?_
                      refine TX.thenN rfl rfl ?_
                      refine TC.ctrue rfl ?_
                      refine TC.seq ?_
                      refine TC.region ?_
                      refine TL.p (EvP.assign rfl) ?_
                      refine TL.nil ?_
                      refine TX.thenN rfl rfl ?_
                      refine TC.ret ?_
                      refine TX.thenR ?_
                      refine TX.blkR ?_
                      refine TX.thenR ?_
                      refine TX.thenR ?_
                      refine TX.blkR ?_
                      refine TX.thenR ?_
                      refine TX.blkR ?_
                      refine TX.thenR ?_
                      refine TX.blkR ?_
                      refine TX.thenR ?_
                      refine TX.done rfl (Res.one rfl rfl) (fun w hs => Post0.mk hs ?_ (by repeat (first | exact Le.refl _ | exact Le.nil _ | refine Le.hit ?_ | refine Le.hit1 ?_ | refine Le.hit2 ?_ | refine Le.hit3 ?_ | refine Le.hit4 ?_ | refine Le.hit5 ?_ | refine Le.hit6 ?_ | refine Le.hit7 ?_ | refine Le.hit8 ?_ | refine Le.hit9 ?_ | refine Le.hit10 ?_ | refine Le.skip ?_)))
                      rw [← hv, vd_short hld hk1 (by omega) (by first | (left; omega) | (right; rw [hbk]; exact fun h => h67 ((mask_cont d).2 h)))]
                    · refine TL.p (EvP.pickF rfl rfl) ?_
                      refine TL.nil ?_
                      refine TX.thenN rfl rfl ?_
                      refine TC.cfalse rfl ?_
                      refine TC.skip ?_
                      refine TX.thenN rfl rfl ?_
                      refine TC.region ?_
                      refine TL.p (EvP.move rfl) ?_
                      refine TL.p (EvP.mul rfl rfl (by omega)) ?_
                      refine TL.p (EvP.move rfl) ?_
                      refine TL.p (EvP.move rfl) ?_
                      refine TL.p (EvP.move rfl) ?_
                      refine TL.p (EvP.add rfl rfl (by omega)) ?_
                      refine TL.p (EvP.idxS Tryd.runUnderlying9 rfl rfl (by omega) (c := d) (by rw [show ((i : Int) + k).toNat = i + k from by omega]; exact hd)) ?_
                      refine TL.p (EvP.bit (.inl rfl) rfl rfl (u8_and63 _ (by omega) (by omega))) ?_
                      refine TL.p (EvP.conv64 rfl (by omega) Tryd.runUnderlying5 Tryd.runUnderlying3) ?_
                      refine TL.p (EvP.isV (EvP.add rfl rfl (by omega)) (rr_step hk1 hbk)) ?_
                      refine TL.p (EvP.assign rfl) ?_
                      refine TL.nil ?_
                      refine TX.blkN ?_
                      refine TX.thenN rfl rfl ?_
                      refine TC.region ?_
                      refine TL.p (EvP.move rfl) ?_
                      refine TL.p (EvP.add rfl rfl (by omega)) ?_
                      refine TL.p (EvP.assign rfl) ?_
                      refine TL.nil ?_
                      refine TX.back (k + 1) (⟨by omega, by omega, all_next hall (by omega) hbk ((mask_cont d).1 (Decidable.of_not_not h67))⟩) (by omega) ⟨rfl, rfl, rfl, rfl, rfl, rfl, rfl, trivial⟩ (by repeat (first | exact Le.refl _ | exact Le.nil _ | refine Le.hit ?_ | refine Le.hit1 ?_ | refine Le.hit2 ?_ | refine Le.hit3 ?_ | refine Le.hit4 ?_ | refine Le.hit5 ?_ | refine Le.hit6 ?_ | refine Le.hit7 ?_ | refine Le.hit8 ?_ | refine Le.hit9 ?_ | refine Le.hit10 ?_ | refine Le.skip ?_))
                · refine TL.nil ?_
                  refine TX.thenN rfl rfl ?_
                  refine TC.cfalse rfl ?_
                  refine TC.exit ?_
                  refine TX.thenE ?_
                  refine TX.thenE ?_
                  refine TX.blkH ?_
                  refine TX.thenN rfl rfl ?_
                  refine TC.seq ?_
                  refine TC.seq ?_
                  refine TC.region ?_
                  have hk3 : k = 4 := by omega
                  subst hk3
                  refine TL.p (EvP.move rfl) ?_
                  refine TL.p (EvP.move rfl) ?_
                  refine TL.dec (EvP.lt rfl rfl) (fun h81 => ?_) (fun h81 => ?_)
                  · refine TL.p (EvP.move rfl) ?_
                    refine TL.gN rfl rfl rfl ?_
                    refine TL.gN rfl rfl rfl ?_
                    refine TL.p (EvP.pickT rfl rfl) ?_
                    refine TL.p (EvP.move rfl) ?_
                    refine TL.gN rfl rfl rfl ?_
                    refine TL.gN rfl rfl rfl ?_
                    refine TL.gN rfl rfl rfl ?_
                    refine TL.gU rfl rfl ?_
                    refine TL.gU rfl rfl ?_
                    refine TL.gN rfl rfl rfl ?_
                    refine TL.p (EvP.pickT rfl rfl) ?_
                    refine TL.nil ?_
                    refine TX.thenN rfl rfl ?_
                    refine TC.ctrue rfl ?_
                    refine TC.seq ?_
                    refine TC.region ?_
                    refine TL.p (EvP.assign rfl) ?_
                    refine TL.nil ?_
                    refine TX.thenN rfl rfl ?_
                    refine TC.ret ?_
                    refine TX.thenR ?_
                    refine TX.blkR ?_
                    refine TX.thenR ?_
                    refine TX.blkR ?_
                    refine TX.thenR ?_
                    refine TX.done rfl (Res.one rfl rfl) (fun w hs => Post0.mk hs ?_ (by repeat (first | exact Le.refl _ | exact Le.nil _ | refine Le.hit ?_ | refine Le.hit1 ?_ | refine Le.hit2 ?_ | refine Le.hit3 ?_ | refine Le.hit4 ?_ | refine Le.hit5 ?_ | refine Le.hit6 ?_ | refine Le.hit7 ?_ | refine Le.hit8 ?_ | refine Le.hit9 ?_ | refine Le.hit10 ?_ | refine Le.skip ?_)))
                    rw [← hv, vd_bad3 hld hall (by omega)]
                  · refine TL.p (EvP.move rfl) ?_
                    refine TL.gY rfl rfl rfl ?_
                    refine TL.p (EvP.move rfl) ?_
                    refine TL.gY rfl rfl rfl ?_
                    refine TL.dec (EvP.gt rfl rfl) (fun h84 => ?_) (fun h84 => ?_)
                    · refine TL.p (EvP.pickF rfl rfl) ?_
                      refine TL.p (EvP.move rfl) ?_
                      refine TL.gN rfl rfl rfl ?_
                      refine TL.gN rfl rfl rfl ?_
                      refine TL.gN rfl rfl rfl ?_
                      refine TL.gU rfl rfl ?_
                      refine TL.gU rfl rfl ?_
                      refine TL.gN rfl rfl rfl ?_
                      refine TL.p (EvP.pickT rfl rfl) ?_
                      refine TL.nil ?_
                      refine TX.thenN rfl rfl ?_
                      refine TC.ctrue rfl ?_
                      refine TC.seq ?_
                      refine TC.region ?_
                      refine TL.p (EvP.assign rfl) ?_
                      refine TL.nil ?_
                      refine TX.thenN rfl rfl ?_
                      refine TC.ret ?_
                      refine TX.thenR ?_
                      refine TX.blkR ?_
                      refine TX.thenR ?_
                      refine TX.blkR ?_
                      refine TX.thenR ?_
                      refine TX.done rfl (Res.one rfl rfl) (fun w hs => Post0.mk hs ?_ (by repeat (first | exact Le.refl _ | exact Le.nil _ | refine Le.hit ?_ | refine Le.hit1 ?_ | refine Le.hit2 ?_ | refine Le.hit3 ?_ | refine Le.hit4 ?_ | refine Le.hit5 ?_ | refine Le.hit6 ?_ | refine Le.hit7 ?_ | refine Le.hit8 ?_ | refine Le.hit9 ?_ | refine Le.hit10 ?_ | refine Le.skip ?_)))
                      rw [← hv, vd_bad3 hld hall (by omega)]
                    · refine TL.p (EvP.pickF rfl rfl) ?_
                      refine TL.p (EvP.move rfl) ?_
                      refine TL.gY rfl rfl rfl ?_
                      refine TL.p (EvP.move rfl) ?_
                      refine TL.gY rfl rfl rfl ?_
                      refine TL.dec (EvP.ge rfl rfl) (fun h88 => ?_) (fun h88 => ?_)
                      · refine TL.gY rfl rfl rfl ?_
                        refine TL.p (EvP.move rfl) ?_
                        refine TL.gY rfl rfl rfl ?_
                        refine TL.p (EvP.move rfl) ?_
                        refine TL.gY rfl rfl rfl ?_
                        refine TL.dec (EvP.lt rfl rfl) (fun h91 => ?_) (fun h91 => ?_)
                        · refine TL.gY rfl rfl rfl ?_
                          refine TL.p (EvP.pickT rfl rfl) ?_
                          refine TL.p (EvP.pickF rfl rfl) ?_
                          refine TL.nil ?_
                          refine TX.thenN rfl rfl ?_
                          refine TC.ctrue rfl ?_
                          refine TC.seq ?_
                          refine TC.region ?_
                          refine TL.p (EvP.assign rfl) ?_
                          refine TL.nil ?_
                          refine TX.thenN rfl rfl ?_
                          refine TC.ret ?_
                          refine TX.thenR ?_
                          refine TX.blkR ?_
                          refine TX.thenR ?_
                          refine TX.blkR ?_
                          refine TX.thenR ?_
                          refine TX.done rfl (Res.one rfl rfl) (fun w hs => Post0.mk hs ?_ (by repeat (first | exact Le.refl _ | exact Le.nil _ | refine Le.hit ?_ | refine Le.hit1 ?_ | refine Le.hit2 ?_ | refine Le.hit3 ?_ | refine Le.hit4 ?_ | refine Le.hit5 ?_ | refine Le.hit6 ?_ | refine Le.hit7 ?_ | refine Le.hit8 ?_ | refine Le.hit9 ?_ | refine Le.hit10 ?_ | refine Le.skip ?_)))
                          rw [← hv, vd_bad3 hld hall (by omega)]
                        · refine TL.gY rfl rfl rfl ?_
                          refine TL.p (EvP.pickT rfl rfl) ?_
                          refine TL.p (EvP.pickF rfl rfl) ?_
                          refine TL.nil ?_
                          refine TX.thenN rfl rfl ?_
                          refine TC.cfalse rfl ?_
                          refine TC.skip ?_
                          refine TX.thenN rfl rfl ?_
                          refine TC.region ?_
                          refine TL.p (EvP.move rfl) ?_
                          refine TL.p (EvP.move rfl) ?_
                          refine TL.p (EvP.add rfl rfl (by omega)) ?_
                          refine TL.p (EvP.add rfl rfl (by omega)) ?_
                          refine TL.p (EvP.assign rfl) ?_
                          refine TL.nil ?_
                          refine TX.blkN ?_
                          have hln := (hall 3 (by omega) (by omega)).1
                          refine TX.back (i + 3 + 1) (⟨by omega, (vd_next3 hld hall (by omega)).trans hv⟩) (by omega) ⟨rfl, rfl, trivial⟩ (by repeat (first | exact Le.refl _ | exact Le.nil _ | refine Le.hit ?_ | refine Le.hit1 ?_ | refine Le.hit2 ?_ | refine Le.hit3 ?_ | refine Le.hit4 ?_ | refine Le.hit5 ?_ | refine Le.hit6 ?_ | refine Le.hit7 ?_ | refine Le.hit8 ?_ | refine Le.hit9 ?_ | refine Le.hit10 ?_ | refine Le.skip ?_))
                      · refine TL.gY rfl rfl rfl ?_
                        refine TL.p (EvP.move rfl) ?_
                        refine TL.gN rfl rfl rfl ?_
                        refine TL.gN rfl rfl rfl ?_
                        refine TL.gY rfl rfl rfl ?_
                        refine TL.p (EvP.pickF rfl rfl) ?_
                        refine TL.p (EvP.pickF rfl rfl) ?_
                        refine TL.nil ?_
                        refine TX.thenN rfl rfl ?_
                        refine TC.cfalse rfl ?_
                        refine TC.skip ?_
                        refine TX.thenN rfl rfl ?_
                        refine TC.region ?_
                        refine TL.p (EvP.move rfl) ?_
                        refine TL.p (EvP.move rfl) ?_
                        refine TL.p (EvP.add rfl rfl (by omega)) ?_
                        refine TL.p (EvP.add rfl rfl (by omega)) ?_
                        refine TL.p (EvP.assign rfl) ?_
                        refine TL.nil ?_
                        refine TX.blkN ?_
                        have hln := (hall 3 (by omega) (by omega)).1
                        refine TX.back (i + 3 + 1) (⟨by omega, (vd_next3 hld hall (by omega)).trans hv⟩) (by omega) ⟨rfl, rfl, trivial⟩ (by repeat (first | exact Le.refl _ | exact Le.nil _ | refine Le.hit ?_ | refine Le.hit1 ?_ | refine Le.hit2 ?_ | refine Le.hit3 ?_ | refine Le.hit4 ?_ | refine Le.hit5 ?_ | refine Le.hit6 ?_ | refine Le.hit7 ?_ | refine Le.hit8 ?_ | refine Le.hit9 ?_ | refine Le.hit10 ?_ | refine Le.skip ?_))
              · refine TL.p (EvP.pickT rfl rfl) ?_
                refine TL.p (EvP.assign rfl) ?_
                refine TL.nil ?_
                refine TX.thenN rfl rfl ?_
                refine TC.cfalse rfl ?_
                refine TC.seq ?_
                refine TC.region ?_
                refine TL.p (EvP.assign rfl) ?_
                refine TL.nil ?_
                refine TX.thenN rfl rfl ?_
                refine TC.ret ?_
                refine TX.blkR ?_
                refine TX.thenR ?_
                refine TX.blkR ?_
                refine TX.thenR ?_
                refine TX.blkR ?_
                refine TX.thenR ?_
                refine TX.done rfl (Res.one rfl rfl) (fun w hs => Post0.mk hs ?_ (by repeat (first | exact Le.refl _ | exact Le.nil _ | refine Le.hit ?_ | refine Le.hit1 ?_ | refine Le.hit2 ?_ | refine Le.hit3 ?_ | refine Le.hit4 ?_ | refine Le.hit5 ?_ | refine Le.hit6 ?_ | refine Le.hit7 ?_ | refine Le.hit8 ?_ | refine Le.hit9 ?_ | refine Le.hit10 ?_ | refine Le.skip ?_)))
                rw [← hv, vd_lead hne (by omega)]
            · refine TL.p (EvP.move rfl) ?_
              refine TL.gN rfl rfl rfl ?_
              refine TL.gN rfl rfl rfl ?_
              refine TL.p (EvP.pickF rfl rfl) ?_
              refine TL.p (EvP.assign rfl) ?_
              refine TL.nil ?_
              refine TX.thenN rfl rfl ?_
              refine TC.cfalse rfl ?_
              refine TC.seq ?_
              refine TC.region ?_
              refine TL.p (EvP.assign rfl) ?_
              refine TL.nil ?_
              refine TX.thenN rfl rfl ?_
              refine TC.ret ?_
              refine TX.blkR ?_
              refine TX.thenR ?_
              refine TX.blkR ?_
              refine TX.thenR ?_
              refine TX.blkR ?_
              refine TX.thenR ?_
              refine TX.done rfl (Res.one rfl rfl) (fun w hs => Post0.mk hs ?_ (by repeat (first | exact Le.refl _ | exact Le.nil _ | refine Le.hit ?_ | refine Le.hit1 ?_ | refine Le.hit2 ?_ | refine Le.hit3 ?_ | refine Le.hit4 ?_ | refine Le.hit5 ?_ | refine Le.hit6 ?_ | refine Le.hit7 ?_ | refine Le.hit8 ?_ | refine Le.hit9 ?_ | refine Le.hit10 ?_ | refine Le.skip ?_)))
              rw [← hv, vd_lead hne (by omega)]
        · refine TL.p (EvP.move rfl) ?_
          refine TL.gN rfl rfl rfl ?_
          refine TL.gN rfl rfl rfl ?_
          refine TL.p (EvP.pickF rfl rfl) ?_
          refine TL.p (EvP.assign rfl) ?_
          refine TL.nil ?_
          refine TX.thenN rfl rfl ?_
          refine TC.cfalse rfl ?_
          refine TC.seq ?_
          refine TC.region ?_
          refine TL.p (EvP.move rfl) ?_
          refine TL.dec (EvP.ge rfl rfl) (fun h42 => ?_) (fun h42 => ?_)
          · refine TL.p (EvP.move rfl) ?_
            refine TL.gY rfl rfl rfl ?_
            refine TL.p (EvP.move rfl) ?_
            refine TL.gY rfl rfl rfl ?_
            refine TL.dec (EvP.lt rfl rfl) (fun h45 => ?_) (fun h45 => ?_)
            · refine TL.p (EvP.pickT rfl rfl) ?_
              refine TL.p (EvP.assign rfl) ?_
              refine TL.nil ?_
              refine TX.thenN rfl rfl ?_
              refine TC.ctrue rfl ?_
              refine TC.seq ?_
              refine TC.region ?_
              refine TL.p (EvP.assign rfl) ?_
              refine TL.nil ?_
              refine TX.thenN rfl rfl ?_
              refine TC.seq ?_
              refine TC.region ?_
              refine TL.p (EvP.assign rfl) ?_
              refine TL.nil ?_
              refine TX.thenN rfl rfl ?_
              refine TC.region ?_
              refine TL.p (EvP.move rfl) ?_
              refine TL.p (EvP.isV (EvP.bit (.inl rfl) rfl rfl (and7i (by omega) (by omega))) (rr_start (m := 8) hb0)) ?_
              refine TL.p (EvP.assign rfl) ?_
              refine TL.nil ?_
              refine TX.blkN ?_
              refine TX.thenN rfl rfl ?_
              refine TC.seq ?_
              refine TC.seq ?_
              refine TC.region ?_
              refine TL.p (EvP.assign rfl) ?_
              refine TL.nil ?_
              refine TX.thenN rfl rfl ?_
              refine TC.block ?_
              refine TC.loop (ι := Nat) (fun k => [(0, sv s), (3, .int .i64 i), (4, .int .i64 c.toNat), (5, .int .i64 3), (6, .int .i64 65536), (7, .int .i64 (rr (s.drop i) 8 k : Nat)), (8, .int .i64 k)]) (fun k => R) (fun k => 1 ≤ k ∧ k ≤ 4 ∧ ∀ j, 1 ≤ j → j < k → j < (s.drop i).length ∧ cont (bt (s.drop i) j)) (fun k => 4 - k) (1) (⟨by omega, by omega, fun j h1 h2 => absurd h2 (by omega)⟩) ⟨rfl, rfl, rfl, rfl, rfl, rfl, rfl, trivial⟩ (by repeat (first | exact Le.refl _ | exact Le.nil _ | refine Le.hit ?_ | refine Le.hit1 ?_ | refine Le.hit2 ?_ | refine Le.hit3 ?_ | refine Le.hit4 ?_ | refine Le.hit5 ?_ | refine Le.hit6 ?_ | refine Le.hit7 ?_ | refine Le.hit8 ?_ | refine Le.hit9 ?_ | refine Le.hit10 ?_ | refine Le.skip ?_)) ?_
              rintro k ⟨hk1, hk2, hall⟩
              change TC _ _ [(0, sv s), (3, .int .i64 i), (4, .int .i64 c.toNat), (5, .int .i64 3), (6, .int .i64 65536), (7, .int .i64 (rr (s.drop i) 8 k : Nat)), (8, .int .i64 k)] (R) _
              have hrr := rr_lt (l := s.drop i) (m := 8) (k := k) (by omega) (by omega) (by omega)
              have hdl : (s.drop i).length = s.length - i := List.length_drop
              have hld : lead 3 (bt (s.drop i) 0) := by unfold lead; omega
              refine TC.seq ?_
              refine TC.seq ?_
              refine TC.region ?_
              refine TL.p (EvP.move rfl) ?_
              refine TL.p (EvP.move rfl) ?_
              refine TL.dec (EvP.le rfl rfl) (fun h51 => ?_) (fun h51 => ?_)
              · refine TL.nil ?_
                refine TX.thenN rfl rfl ?_
                refine TC.ctrue rfl ?_
                refine TC.skip ?_
                refine TX.thenN rfl rfl ?_
                refine TC.seq ?_
                refine TC.block ?_
                refine TC.seq ?_
                refine TC.seq ?_
                refine TC.region ?_
                refine TL.p (EvP.move rfl) ?_
                refine TL.p (EvP.move rfl) ?_
                refine TL.p (EvP.add rfl rfl (by omega)) ?_
                refine TL.p (EvP.move rfl) ?_
                refine TL.p (EvP.lenL Tryd.runUnderlying9 rfl) ?_
                refine TL.dec (EvP.ge rfl rfl) (fun h59 => ?_) (fun h59 => ?_)
                · refine TL.p (EvP.move rfl) ?_
                  refine TL.gN rfl rfl rfl ?_
                  refine TL.gN rfl rfl rfl ?_
                  refine TL.gN rfl rfl rfl ?_
                  refine TL.gN rfl rfl rfl ?_
                  refine TL.gN rfl rfl rfl ?_
                  refine TL.gN rfl rfl rfl ?_
                  refine TL.gN rfl rfl rfl ?_
                  refine TL.p (EvP.pickT rfl rfl) ?_
                  refine TL.nil ?_
                  refine TX.thenN rfl rfl ?_
                  refine TC.ctrue rfl ?_
                  refine TC.seq ?_
                  refine TC.region ?_
                  refine TL.p (EvP.assign rfl) ?_
                  refine TL.nil ?_
                  refine TX.thenN rfl rfl ?_
                  refine TC.ret ?_
                  refine TX.thenR ?_
                  refine TX.blkR ?_
                  refine TX.thenR ?_
                  refine TX.thenR ?_
                  refine TX.blkR ?_
                  refine TX.thenR ?_
                  refine TX.blkR ?_
                  refine TX.thenR ?_
                  refine TX.blkR ?_
                  refine TX.thenR ?_
                  refine TX.done rfl (Res.one rfl rfl) (fun w hs => Post0.mk hs ?_ (by repeat (first | exact Le.refl _ | exact Le.nil _ | refine Le.hit ?_ | refine Le.hit1 ?_ | refine Le.hit2 ?_ | refine Le.hit3 ?_ | refine Le.hit4 ?_ | refine Le.hit5 ?_ | refine Le.hit6 ?_ | refine Le.hit7 ?_ | refine Le.hit8 ?_ | refine Le.hit9 ?_ | refine Le.hit10 ?_ | refine Le.skip ?_)))
                  rw [← hv, vd_short hld hk1 (by omega) (by first | (left; omega) | (right; rw [hbk]; exact fun h => h67 ((mask_cont d).2 h)))]
                · refine TL.p (EvP.move rfl) ?_
                  refine TL.gY rfl rfl rfl ?_
                  refine TL.p (EvP.move rfl) ?_
                  refine TL.gY rfl rfl rfl ?_
                  refine TL.p (EvP.move rfl) ?_
                  refine TL.gY rfl rfl rfl ?_
                  refine TL.p (EvP.move rfl) ?_
                  refine TL.gY rfl rfl rfl ?_
                  refine TL.p (EvP.add rfl rfl (by omega)) ?_
                  refine TL.gY rfl rfl rfl ?_
                  have hik : i + k < s.length := by omega
                  obtain ⟨d, hd⟩ : ∃ d, s[i + k]? = some d := ⟨_, List.getElem?_eq_getElem hik⟩
                  have hd256 := d.toNat_lt
                  have hbk : bt (s.drop i) k = d.toNat := bt_drop hd
                  refine TL.p (EvP.idxS Tryd.runUnderlying9 rfl rfl (by omega) (c := d) (by rw [show ((i : Int) + k).toNat = i + k from by omega]; exact hd)) ?_
                  refine TL.gY rfl rfl rfl ?_
                  refine TL.p (EvP.bit (.inl rfl) rfl rfl rfl) ?_
                  refine TL.gY rfl rfl rfl ?_
                  refine TL.dec (EvP.ne rfl rfl) (fun h67 => ?_) (fun h67 => ?_)
                  · refine TL.p (EvP.pickF rfl rfl) ?_
                    refine TL.nil ?_
                    refine TX.thenN rfl rfl ?_
                    refine TC.ctrue rfl ?_
                    refine TC.seq ?_
                    refine TC.region ?_
                    refine TL.p (EvP.assign rfl) ?_
                    refine TL.nil ?_
                    refine TX.thenN rfl rfl ?_
                    refine TC.ret ?_
                    refine TX.thenR ?_
                    refine TX.blkR ?_
                    refine TX.thenR ?_
                    refine TX.thenR ?_
                    refine TX.blkR ?_
                    refine TX.thenR ?_
                    refine TX.blkR ?_
                    refine TX.thenR ?_
                    refine TX.blkR ?_
                    refine TX.thenR ?_
                    refine TX.done rfl (Res.one rfl rfl) (fun w hs => Post0.mk hs ?_ (by repeat (first | exact Le.refl _ | exact Le.nil _ | refine Le.hit ?_ | refine Le.hit1 ?_ | refine Le.hit2 ?_ | refine Le.hit3 ?_ | refine Le.hit4 ?_ | refine Le.hit5 ?_ | refine Le.hit6 ?_ | refine Le.hit7 ?_ | refine Le.hit8 ?_ | refine Le.hit9 ?_ | refine Le.hit10 ?_ | refine Le.skip ?_)))
                    rw [← hv, vd_short hld hk1 (by omega) (by first | (left; omega) | (right; rw [hbk]; exact fun h => h67 ((mask_cont d).2 h)))]
                  · refine TL.p (EvP.pickF rfl rfl) ?_
                    refine TL.nil ?_
                    refine TX.thenN rfl rfl ?_
                    refine TC.cfalse rfl ?_
                    refine TC.skip ?_
                    refine TX.thenN rfl rfl ?_
                    refine TC.region ?_
                    refine TL.p (EvP.move rfl) ?_
                    refine TL.p (EvP.mul rfl rfl (by omega)) ?_
                    refine TL.p (EvP.move rfl) ?_
                    refine TL.p (EvP.move rfl) ?_
                    refine TL.p (EvP.move rfl) ?_
                    refine TL.p (EvP.add rfl rfl (by omega)) ?_
                    refine TL.p (EvP.idxS Tryd.runUnderlying9 rfl rfl (by omega) (c := d) (by rw [show ((i : Int) + k).toNat = i + k from by omega]; exact hd)) ?_
                    refine TL.p (EvP.bit (.inl rfl) rfl rfl (u8_and63 _ (by omega) (by omega))) ?_
                    refine TL.p (EvP.conv64 rfl (by omega) Tryd.runUnderlying5 Tryd.runUnderlying3) ?_
                    refine TL.p (EvP.isV (EvP.add rfl rfl (by omega)) (rr_step hk1 hbk)) ?_
                    refine TL.p (EvP.assign rfl) ?_
                    refine TL.nil ?_
                    refine TX.blkN ?_
                    refine TX.thenN rfl rfl ?_
                    refine TC.region ?_
                    refine TL.p (EvP.move rfl) ?_
                    refine TL.p (EvP.add rfl rfl (by omega)) ?_
                    refine TL.p (EvP.assign rfl) ?_
                    refine TL.nil ?_
                    refine TX.back (k + 1) (⟨by omega, by omega, all_next hall (by omega) hbk ((mask_cont d).1 (Decidable.of_not_not h67))⟩) (by omega) ⟨rfl, rfl, rfl, rfl, rfl, rfl, rfl, trivial⟩ (by repeat (first | exact Le.refl _ | exact Le.nil _ | refine Le.hit ?_ | refine Le.hit1 ?_ | refine Le.hit2 ?_ | refine Le.hit3 ?_ | refine Le.hit4 ?_ | refine Le.hit5 ?_ | refine Le.hit6 ?_ | refine Le.hit7 ?_ | refine Le.hit8 ?_ | refine Le.hit9 ?_ | refine Le.hit10 ?_ | refine Le.skip ?_))
              · refine TL.nil ?_
                refine TX.thenN rfl rfl ?_
                refine TC.cfalse rfl ?_
                refine TC.exit ?_
                refine TX.thenE ?_
                refine TX.thenE ?_
                refine TX.blkH ?_
                refine TX.thenN rfl rfl ?_
                refine TC.seq ?_
                refine TC.seq ?_
                refine TC.region ?_
                have hk3 : k = 4 := by omega
                subst hk3
                refine TL.p (EvP.move rfl) ?_
                refine TL.p (EvP.move rfl) ?_
                refine TL.dec (EvP.lt rfl rfl) (fun h81 => ?_) (fun h81 => ?_)
                · refine TL.p (EvP.move rfl) ?_
                  refine TL.gN rfl rfl rfl ?_
                  refine TL.gN rfl rfl rfl ?_
                  refine TL.p (EvP.pickT rfl rfl) ?_
                  refine TL.p (EvP.move rfl) ?_
                  refine TL.gN rfl rfl rfl ?_
                  refine TL.gN rfl rfl rfl ?_
                  refine TL.gN rfl rfl rfl ?_
                  refine TL.gU rfl rfl ?_
                  refine TL.gU rfl rfl ?_
                  refine TL.gN rfl rfl rfl ?_
                  refine TL.p (EvP.pickT rfl rfl) ?_
                  refine TL.nil ?_
                  refine TX.thenN rfl rfl ?_
                  refine TC.ctrue rfl ?_
                  refine TC.seq ?_
                  refine TC.region ?_
                  refine TL.p (EvP.assign rfl) ?_
                  refine TL.nil ?_
                  refine TX.thenN rfl rfl ?_
                  refine TC.ret ?_
                  refine TX.thenR ?_
                  refine TX.blkR ?_
                  refine TX.thenR ?_
                  refine TX.blkR ?_
                  refine TX.thenR ?_
                  refine TX.done rfl (Res.one rfl rfl) (fun w hs => Post0.mk hs ?_ (by repeat (first | exact Le.refl _ | exact Le.nil _ | refine Le.hit ?_ | refine Le.hit1 ?_ | refine Le.hit2 ?_ | refine Le.hit3 ?_ | refine Le.hit4 ?_ | refine Le.hit5 ?_ | refine Le.hit6 ?_ | refine Le.hit7 ?_ | refine Le.hit8 ?_ | refine Le.hit9 ?_ | refine Le.hit10 ?_ | refine Le.skip ?_)))
                  rw [← hv, vd_bad3 hld hall (by omega)]
                · refine TL.p (EvP.move rfl) ?_
                  refine TL.gY rfl rfl rfl ?_
                  refine TL.p (EvP.move rfl) ?_
                  refine TL.gY rfl rfl rfl ?_
                  refine TL.dec (EvP.gt rfl rfl) (fun h84 => ?_) (fun h84 => ?_)
                  · refine TL.p (EvP.pickF rfl rfl) ?_
                    refine TL.p (EvP.move rfl) ?_
                    refine TL.gN rfl rfl rfl ?_
                    refine TL.gN rfl rfl rfl ?_
                    refine TL.gN rfl rfl rfl ?_
                    refine TL.gU rfl rfl ?_
                    refine TL.gU rfl rfl ?_
                    refine TL.gN rfl rfl rfl ?_
                    refine TL.p (EvP.pickT rfl rfl) ?_
                    refine TL.nil ?_
                    refine TX.thenN rfl rfl ?_
                    refine TC.ctrue rfl ?_
                    refine TC.seq ?_
                    refine TC.region ?_
                    refine TL.p (EvP.assign rfl) ?_
                    refine TL.nil ?_
                    refine TX.thenN rfl rfl ?_
                    refine TC.ret ?_
                    refine TX.thenR ?_
                    refine TX.blkR ?_
                    refine TX.thenR ?_
                    refine TX.blkR ?_
                    refine TX.thenR ?_
                    refine TX.done rfl (Res.one rfl rfl) (fun w hs => Post0.mk hs ?_ (by repeat (first | exact Le.refl _ | exact Le.nil _ | refine Le.hit ?_ | refine Le.hit1 ?_ | refine Le.hit2 ?_ | refine Le.hit3 ?_ | refine Le.hit4 ?_ | refine Le.hit5 ?_ | refine Le.hit6 ?_ | refine Le.hit7 ?_ | refine Le.hit8 ?_ | refine Le.hit9 ?_ | refine Le.hit10 ?_ | refine Le.skip ?_)))
                    rw [← hv, vd_bad3 hld hall (by omega)]
                  · refine TL.p (EvP.pickF rfl rfl) ?_
                    refine TL.p (EvP.move rfl) ?_
                    refine TL.gY rfl rfl rfl ?_
                    refine TL.p (EvP.move rfl) ?_
                    refine TL.gY rfl rfl rfl ?_
                    refine TL.dec (EvP.ge rfl rfl) (fun h88 => ?_) (fun h88 => ?_)
                    · refine TL.gY rfl rfl rfl ?_
                      refine TL.p (EvP.move rfl) ?_
                      refine TL.gY rfl rfl rfl ?_
                      refine TL.p (EvP.move rfl) ?_
                      refine TL.gY rfl rfl rfl ?_
                      refine TL.dec (EvP.lt rfl rfl) (fun h91 => ?_) (fun h91 => ?_)
                      · refine TL.gY rfl rfl rfl ?_
                        refine TL.p (EvP.pickT rfl rfl) ?_
                        refine TL.p (EvP.pickF rfl rfl) ?_
                        refine TL.nil ?_
                        refine TX.thenN rfl rfl ?_
                        refine TC.ctrue rfl ?_
                        refine TC.seq ?_
                        refine TC.region ?_
                        refine TL.p (EvP.assign rfl) ?_
                        refine TL.nil ?_
                        refine TX.thenN rfl rfl ?_
                        refine TC.ret ?_
                        refine TX.thenR ?_
                        refine TX.blkR ?_
                        refine TX.thenR ?_
                        refine TX.blkR ?_
                        refine TX.thenR ?_
                        refine TX.done rfl (Res.one rfl rfl) (fun w hs => Post0.mk hs ?_ (by repeat (first | exact Le.refl _ | exact Le.nil _ | refine Le.hit ?_ | refine Le.hit1 ?_ | refine Le.hit2 ?_ | refine Le.hit3 ?_ | refine Le.hit4 ?_ | refine Le.hit5 ?_ | refine Le.hit6 ?_ | refine Le.hit7 ?_ | refine Le.hit8 ?_ | refine Le.hit9 ?_ | refine Le.hit10 ?_ | refine Le.skip ?_)))
                        rw [← hv, vd_bad3 hld hall (by omega)]
                      · refine TL.gY rfl rfl rfl ?_
                        refine TL.p (EvP.pickT rfl rfl) ?_
                        refine TL.p (EvP.pickF rfl rfl) ?_
                        refine TL.nil ?_
                        refine TX.thenN rfl rfl ?_
                        refine TC.cfalse rfl ?_
                        refine TC.skip ?_
                        refine TX.thenN rfl rfl ?_
                        refine TC.region ?_
                        refine TL.p (EvP.move rfl) ?_
                        refine TL.p (EvP.move rfl) ?_
                        refine TL.p (EvP.add rfl rfl (by omega)) ?_
                        refine TL.p (EvP.add rfl rfl (by omega)) ?_
                        refine TL.p (EvP.assign rfl) ?_
                        refine TL.nil ?_
                        refine TX.blkN ?_
                        have hln := (hall 3 (by omega) (by omega)).1
                        refine TX.back (i + 3 + 1) (⟨by omega, (vd_next3 hld hall (by omega)).trans hv⟩) (by omega) ⟨rfl, rfl, trivial⟩ (by repeat (first | exact Le.refl _ | exact Le.nil _ | refine Le.hit ?_ | refine Le.hit1 ?_ | refine Le.hit2 ?_ | refine Le.hit3 ?_ | refine Le.hit4 ?_ | refine Le.hit5 ?_ | refine Le.hit6 ?_ | refine Le.hit7 ?_ | refine Le.hit8 ?_ | refine Le.hit9 ?_ | refine Le.hit10 ?_ | refine Le.skip ?_))
                    · refine TL.gY rfl rfl rfl ?_
                      refine TL.p (EvP.move rfl) ?_
                      refine TL.gN rfl rfl rfl ?_
                      refine TL.gN rfl rfl rfl ?_
                      refine TL.gY rfl rfl rfl ?_
                      refine TL.p (EvP.pickF rfl rfl) ?_
                      refine TL.p (EvP.pickF rfl rfl) ?_
                      refine TL.nil ?_
                      refine TX.thenN rfl rfl ?_
                      refine TC.cfalse rfl ?_
                      refine TC.skip ?_
                      refine TX.thenN rfl rfl ?_
                      refine TC.region ?_
                      refine TL.p (EvP.move rfl) ?_
                      refine TL.p (EvP.move rfl) ?_
                      refine TL.p (EvP.add rfl rfl (by omega)) ?_
                      refine TL.p (EvP.add rfl rfl (by omega)) ?_
                      refine TL.p (EvP.assign rfl) ?_
                      refine TL.nil ?_
                      refine TX.blkN ?_
                      have hln := (hall 3 (by omega) (by omega)).1
                      refine TX.back (i + 3 + 1) (⟨by omega, (vd_next3 hld hall (by omega)).trans hv⟩) (by omega) ⟨rfl, rfl, trivial⟩ (by repeat (first | exact Le.refl _ | exact Le.nil _ | refine Le.hit ?_ | refine Le.hit1 ?_ | refine Le.hit2 ?_ | refine Le.hit3 ?_ | refine Le.hit4 ?_ | refine Le.hit5 ?_ | refine Le.hit6 ?_ | refine Le.hit7 ?_ | refine Le.hit8 ?_ | refine Le.hit9 ?_ | refine Le.hit10 ?_ | refine Le.skip ?_))
            · refine TL.p (EvP.pickT rfl rfl) ?_
              refine TL.p (EvP.assign rfl) ?_
              refine TL.nil ?_
              refine TX.thenN rfl rfl ?_
              refine TC.cfalse rfl ?_
              refine TC.seq ?_
              refine TC.region ?_
              refine TL.p (EvP.assign rfl) ?_
              refine TL.nil ?_
              refine TX.thenN rfl rfl ?_
              refine TC.ret ?_
              refine TX.blkR ?_
              refine TX.thenR ?_
              refine TX.blkR ?_
              refine TX.thenR ?_
              refine TX.blkR ?_
              refine TX.thenR ?_
              refine TX.done rfl (Res.one rfl rfl) (fun w hs => Post0.mk hs ?_ (by repeat (first | exact Le.refl _ | exact Le.nil _ | refine Le.hit ?_ | refine Le.hit1 ?_ | refine Le.hit2 ?_ | refine Le.hit3 ?_ | refine Le.hit4 ?_ | refine Le.hit5 ?_ | refine Le.hit6 ?_ | refine Le.hit7 ?_ | refine Le.hit8 ?_ | refine Le.hit9 ?_ | refine Le.hit10 ?_ | refine Le.skip ?_)))
              rw [← hv, vd_lead hne (by omega)]
          · refine TL.p (EvP.move rfl) ?_
            refine TL.gN rfl rfl rfl ?_
            refine TL.gN rfl rfl rfl ?_
            refine TL.p (EvP.pickF rfl rfl) ?_
            refine TL.p (EvP.assign rfl) ?_
            refine TL.nil ?_
            refine TX.thenN rfl rfl ?_
            refine TC.cfalse rfl ?_
            refine TC.seq ?_
            refine TC.region ?_
            refine TL.p (EvP.assign rfl) ?_
            refine TL.nil ?_
            refine TX.thenN rfl rfl ?_
            refine TC.ret ?_
            refine TX.blkR ?_
            refine TX.thenR ?_
            refine TX.blkR ?_
            refine TX.thenR ?_
            refine TX.blkR ?_
            refine TX.thenR ?_
            refine TX.done rfl (Res.one rfl rfl) (fun w hs => Post0.mk hs ?_ (by repeat (first | exact Le.refl _ | exact Le.nil _ | refine Le.hit ?_ | refine Le.hit1 ?_ | refine Le.hit2 ?_ | refine Le.hit3 ?_ | refine Le.hit4 ?_ | refine Le.hit5 ?_ | refine Le.hit6 ?_ | refine Le.hit7 ?_ | refine Le.hit8 ?_ | refine Le.hit9 ?_ | refine Le.hit10 ?_ | refine Le.skip ?_)))
            rw [← hv, vd_lead hne (by omega)]
  · refine TL.nil ?_
    refine TX.thenN rfl rfl ?_
    refine TC.cfalse rfl ?_
    refine TC.exit ?_
    refine TX.thenE ?_
    refine TX.thenE ?_
    refine TX.blkH ?_
    refine TX.thenN rfl rfl ?_
    refine TC.seq ?_
    refine TC.region ?_
    refine TL.p (EvP.assign rfl) ?_
    refine TL.nil ?_
    refine TX.thenN rfl rfl ?_
    refine TC.ret ?_
    refine TX.done rfl (Res.one rfl rfl) (fun w hs => Post0.mk hs ?_ (by repeat (first | exact Le.refl _ | exact Le.nil _ | refine Le.hit ?_ | refine Le.hit1 ?_ | refine Le.hit2 ?_ | refine Le.hit3 ?_ | refine Le.hit4 ?_ | refine Le.hit5 ?_ | refine Le.hit6 ?_ | refine Le.hit7 ?_ | refine Le.hit8 ?_ | refine Le.hit9 ?_ | refine Le.hit10 ?_ | refine Le.skip ?_)))
    rw [← hv, List.drop_eq_nil_of_le (by omega)]; rfl

theorem spelled_spec {w0 w : World} {R : List Chunk} (hT : Tabs w0) (s : Str) (hst : St w0 w R) : Calls Tryd.prog 67 #[sv s] w (Post0 w0 R fun v => v = .bool (validD s)) := by
  refine calls_of (args := [_]) Tryd.func67 rfl Tryd.ntmps67 hst ?_
  refine TC.seq ?_
  refine TC.region ?_
  refine TL.p (EvP.assign rfl) ?_
  refine TL.nil ?_
  refine TX.thenN rfl rfl ?_
  refine TC.seq ?_
  refine TC.seq ?_
  refine TC.region ?_
  refine TL.p (EvP.move rfl) ?_
  refine TL.rangeS Tryd.runUnderlying9 rfl (fun r => ?_)
  refine TL.nil ?_
  refine TX.thenN rfl rfl ?_
  refine TC.block ?_
  refine TC.loop (ι := Nat) (fun pos => [(0, sv s), (8, .pointer (some ⟨r, 0, none⟩))]) (fun pos => [(r, strIter s pos)] :: R) (fun pos => validD (s.drop pos) = validD s) (fun pos => s.length - pos) (0) (rfl) ⟨rfl, rfl, trivial⟩ (by repeat (first | exact Le.refl _ | exact Le.nil _ | refine Le.hit ?_ | refine Le.hit1 ?_ | refine Le.hit2 ?_ | refine Le.hit3 ?_ | refine Le.hit4 ?_ | refine Le.hit5 ?_ | refine Le.hit6 ?_ | refine Le.hit7 ?_ | refine Le.hit8 ?_ | refine Le.hit9 ?_ | refine Le.hit10 ?_ | refine Le.skip ?_)) ?_
  rintro pos hv
  change TC _ _ [(0, sv s), (8, .pointer (some ⟨r, 0, none⟩))] ([(r, strIter s pos)] :: R) _
  refine TC.seq ?_
  refine TC.region ?_
  refine TL.nextS rfl (by repeat (first | exact Has.hd | refine Has.tlb ?_ | refine Has.tlc ?_)) (fun hdn => ?_) (fun hm => ⟨_, (by repeat (first | exact Upd.hd | apply Upd.tlb | apply Upd.tlc)), ?_⟩)
  · refine TL.p (EvP.extract rfl rfl) ?_
    refine TL.nil ?_
    refine TX.thenN rfl rfl ?_
    refine TC.seq ?_
    refine TC.cfalse rfl ?_
    refine TC.exit ?_
    refine TX.thenE ?_
    refine TX.thenE ?_
    refine TX.blkH ?_
    refine TX.thenN rfl rfl ?_
    refine TC.seq ?_
    refine TC.region ?_
    refine TL.p (EvP.assign rfl) ?_
    refine TL.nil ?_
    refine TX.thenN rfl rfl ?_
    refine TC.ret ?_
    refine TX.done rfl (Res.one rfl rfl) (fun w hs => Post0.mk hs ?_ (by repeat (first | exact Le.refl _ | exact Le.nil _ | refine Le.hit ?_ | refine Le.hit1 ?_ | refine Le.hit2 ?_ | refine Le.hit3 ?_ | refine Le.hit4 ?_ | refine Le.hit5 ?_ | refine Le.hit6 ?_ | refine Le.hit7 ?_ | refine Le.hit8 ?_ | refine Le.hit9 ?_ | refine Le.hit10 ?_ | refine Le.skip ?_)))
    rw [← hv, List.drop_eq_nil_of_le hdn]; rfl
  · have hne : s.drop pos ≠ [] := by rw [ne_eq, List.drop_eq_nil_iff]; omega
    have hwd := decodeL_width (s.drop pos)
    refine TL.p (EvP.extract rfl rfl) ?_
    refine TL.nil ?_
    refine TX.thenN rfl rfl ?_
    refine TC.seq ?_
    refine TC.ctrue rfl ?_
    refine TC.skip ?_
    refine TX.thenN rfl rfl ?_
    refine TC.block ?_
    refine TC.seq ?_
    refine TC.region ?_
    refine TL.p (EvP.extract rfl rfl) ?_
    refine TL.p (EvP.extract rfl rfl) ?_
    refine TL.p (EvP.assign rfl) ?_
    refine TL.p (EvP.assign rfl) ?_
    refine TL.nil ?_
    refine TX.thenN rfl rfl ?_
    refine TC.seq ?_
    refine TC.region ?_
    refine TL.p (EvP.move rfl) ?_
    refine TL.dec (EvP.eq rfl rfl) (fun h14 => ?_) (fun h14 => ?_)
    · refine TL.nil ?_
      refine TX.thenN rfl rfl ?_
      refine TC.ctrue rfl ?_
      refine TC.seq ?_
      refine TC.region ?_
      refine TL.p (EvP.move rfl) ?_
      refine TL.p (EvP.move rfl) ?_
      refine TL.p (EvP.sliceS Tryd.runUnderlying9 rfl rfl (by omega)) ?_
      refine TL.callA rfl rfl Tryd.call73 (fun w hs => dec_call hT (s.drop pos) hne hs) ?_
      rintro _ rfl
      refine TL.p (EvP.move rfl) ?_
      refine TL.p (EvP.extract rfl rfl) ?_
      refine TL.p (EvP.extract rfl rfl) ?_
      refine TL.p (EvP.assign rfl) ?_
      refine TL.p (EvP.assign rfl) ?_
      refine TL.nil ?_
      refine TX.thenN rfl rfl ?_
      refine TC.seq ?_
      refine TC.region ?_
      refine TL.p (EvP.move rfl) ?_
      refine TL.dec (EvP.eq rfl rfl) (fun h23 => ?_) (fun h23 => ?_)
      · refine TL.nil ?_
        refine TX.thenN rfl rfl ?_
        refine TC.ctrue rfl ?_
        refine TC.seq ?_
        refine TC.region ?_
        refine TL.p (EvP.assign rfl) ?_
        refine TL.nil ?_
        refine TX.thenN rfl rfl ?_
        refine TC.ret ?_
        refine TX.blkR ?_
        refine TX.thenR ?_
        refine TX.blkR ?_
        refine TX.thenR ?_
        refine TX.done rfl (Res.one rfl rfl) (fun w hs => Post0.mk hs ?_ (by repeat (first | exact Le.refl _ | exact Le.nil _ | refine Le.hit ?_ | refine Le.hit1 ?_ | refine Le.hit2 ?_ | refine Le.hit3 ?_ | refine Le.hit4 ?_ | refine Le.hit5 ?_ | refine Le.hit6 ?_ | refine Le.hit7 ?_ | refine Le.hit8 ?_ | refine Le.hit9 ?_ | refine Le.hit10 ?_ | refine Le.skip ?_)))
        rw [← hv, validD_step _ hne, if_pos ⟨by omega, by omega⟩]
      · refine TL.nil ?_
        refine TX.thenN rfl rfl ?_
        refine TC.cfalse rfl ?_
        refine TC.skip ?_
        refine TX.blkN ?_
        refine TX.back (pos + (decodeL (s.drop pos)).2) (spell_step hne hv (by omega)) (by omega) ⟨rfl, rfl, trivial⟩ (by repeat (first | exact Le.refl _ | exact Le.nil _ | refine Le.hit ?_ | refine Le.hit1 ?_ | refine Le.hit2 ?_ | refine Le.hit3 ?_ | refine Le.hit4 ?_ | refine Le.hit5 ?_ | refine Le.hit6 ?_ | refine Le.hit7 ?_ | refine Le.hit8 ?_ | refine Le.hit9 ?_ | refine Le.hit10 ?_ | refine Le.skip ?_))
    · refine TL.nil ?_
      refine TX.thenN rfl rfl ?_
      refine TC.cfalse rfl ?_
      refine TC.skip ?_
      refine TX.blkN ?_
      refine TX.back (pos + (decodeL (s.drop pos)).2) (spell_step hne hv (by omega)) (by omega) ⟨rfl, rfl, trivial⟩ (by repeat (first | exact Le.refl _ | exact Le.nil _ | refine Le.hit ?_ | refine Le.hit1 ?_ | refine Le.hit2 ?_ | refine Le.hit3 ?_ | refine Le.hit4 ?_ | refine Le.hit5 ?_ | refine Le.hit6 ?_ | refine Le.hit7 ?_ | refine Le.hit8 ?_ | refine Le.hit9 ?_ | refine Le.hit10 ?_ | refine Le.skip ?_))
end Go.Proofs.YtdbpandamnkpdaaDoor
