/-
  Names: a process gone; all of them, in order.
-/
import Derived.Test.YtocohlcmkbnegaaDoorNc
import Derived.Test.YtocohlcmkbnegaaDoorSo
set_option linter.unusedSimpArgs false
set_option linter.unusedVariables false
set_option maxRecDepth 100000
namespace Go.Proofs.YtocohlcmkbnegaaDoor
open Go Go.RowKit

abbrev SlS (v : Value) (xs : List Str) (C : Chunk) : Prop := Sl 9 1 (one sv) v xs C
theorem sort_spec {w0 w : World} {R : List Chunk} {v : Value} {xs : List Str} {C : Chunk} (hv : SlS v xs C) (hst : St w0 w (C :: R)) (hsz : xs.length < 4611686018427387904) :
    Calls Tryd.prog 31 #[v] w (Post1 w0 R fun u C' => u = .tuple #[] ∧ SlS v (srtS xs) C') :=
  sort_own (le := fun x y => decide (x ≤ y)) (fun blk off cap zs w hH hb hz => Go.Proofs.AnyM.slices_Sort_string Go.Proofs.Tryd.srt blk off cap zs w hH hb hz)
    (fun p cap w => Go.Proofs.AnyM.slices_Sort_string_none Go.Proofs.Tryd.srt p cap w) hv hst hsz
theorem elS : ElT Tryd.prog 9 1 16 := ElT.of Tryd.typeInfo9 rfl rfl rfl rfl
theorem elN : ElT Tryd.prog 45 2 24 := ElT.of Tryd.typeInfo45 rfl rfl rfl rfl
theorem encN_ok : Enc 2 En.enc := fun x => ⟨rfl, by intro u hu; simp only [En.enc, List.mem_cons, List.not_mem_nil, or_false] at hu; rcases hu with rfl | rfl <;> rfl⟩
theorem calls3 {P : Program} {f : FuncId} {args : Array Value} {w0 w : World} {R : List Chunk} {x1 x2 x3 : Nat × Obj} {post : Value → Chunk → Prop} {Q : Value → Chunk → Prop} (h : Calls P f args w (Post1 w0 ([x1] :: [x2] :: [x3] :: R) post)) (hQ : ∀ u E, post u E → Q u E) : Calls P f args w (Post1 w0 ([x1, x2, x3] :: R) Q) :=
  h.mono fun e w' => by
    rintro ⟨v, Hq, rfl, ⟨E, rfl, hp⟩, hs⟩
    exact ⟨v, [E], rfl, ⟨E, rfl, hQ v E hp⟩, hs.le (Le.hit Le.close3)⟩
theorem calls1 {P : Program} {f : FuncId} {args : Array Value} {w0 w : World} {R : List Chunk} {post : Value → Chunk → Prop} {Q : Value → Chunk → Prop} (h : Calls P f args w (Post1 w0 R post)) (hQ : ∀ u E, post u E → Q u E) : Calls P f args w (Post1 w0 R Q) :=
  h.mono fun e w' => by
    rintro ⟨v, Hq, rfl, ⟨E, rfl, hp⟩, hs⟩
    exact ⟨v, [E], rfl, ⟨E, rfl, hQ v E hp⟩, hs⟩
section
variable {w0 w : World} {R : List Chunk} {L : List En} {g : Nat} {C : Chunk}
theorem g_len (hG : IsN L g C) (hst : St w0 w (C :: R)) : Calls Tryd.prog 9 #[.pointer (some ⟨g, 0, none⟩)] w (Post1 w0 R fun u C' => u = .int .i64 L.length ∧ C' = C) := by
  obtain ⟨mw, mn, es, cs, en, cn, rfl, hN⟩ := hG
  exact len_raw hN (hst.le Le.open3)
theorem g_find (hG : IsN L g C) (s : Str) (hst : St w0 w (C :: R)) : Calls Tryd.prog 16 #[.pointer (some ⟨g, 0, none⟩), sv s] w (Post1 w0 R fun u C' => u = .tuple #[.int .i64 (fndN L s).1, .bool (fndN L s).2] ∧ C' = C) := by
  obtain ⟨mw, mn, es, cs, en, cn, rfl, hN⟩ := hG
  exact find_raw hN s (hst.le Le.open3)
theorem g_name (hG : IsN L g C) (p : Int) (hst : St w0 w (C :: R)) : Calls Tryd.prog 17 #[.pointer (some ⟨g, 0, none⟩), .int .i64 p] w (Post1 w0 R fun u C' => u = .tuple #[sv (fndP L p).1, .bool (fndP L p).2] ∧ C' = C) := by
  obtain ⟨mw, mn, es, cs, en, cn, rfl, hN⟩ := hG
  exact name_raw hN p (hst.le Le.open3)
theorem g_add (hG : IsN L g C) (hT : Tabs w0) (s : Str) (p : Int) (hst : St w0 w (C :: R)) : Calls Tryd.prog 13 #[.pointer (some ⟨g, 0, none⟩), sv s, .int .i64 p] w (Post1 w0 R fun u C' => u = .int .i64 (add L s p).1 ∧ IsN (add L s p).2 g C') := by
  obtain ⟨mw, mn, es, cs, en, cn, rfl, hN⟩ := hG
  exact add_raw hN hT s p (hst.le Le.open3)
theorem g_drop (hG : IsN L g C) (s : Str) (hst : St w0 w (C :: R)) : Calls Tryd.prog 14 #[.pointer (some ⟨g, 0, none⟩), sv s] w (Post1 w0 R fun u C' => u = .int .i64 (drp L s).1 ∧ IsN (drp L s).2 g C') := by
  obtain ⟨mw, mn, es, cs, en, cn, rfl, hN⟩ := hG
  unfold drp
  rcases hN.valS s with ⟨_, h1, h2⟩ | ⟨e, he, rfl, _, h1, h2⟩
  · rw [if_neg (by simp [h1])]
    exact calls1 (drop_no hN h2 (hst.le Le.open3)) (fun u E ⟨h3, h4⟩ => ⟨h3, mw, mn, es, cs, en, cn, h4, hN⟩)
  · rw [if_pos h1]
    exact calls1 (drop_yes hN h2 (hst.le Le.open3)) (fun u E ⟨h3, h4⟩ => ⟨h3, mw, mn, _, cs, _, cn, h4, hN.out he⟩)
theorem gon_no {p : Int} (h : (fndP L p).2 = false) : gonL L p = L := by
  unfold gonL
  unfold fndP at h
  split <;> simp_all
theorem gon_drp {p : Int} (h : (fndP L p).2 = true) : (drp L (fndP L p).1).2 = gonL L p := by
  unfold gonL
  unfold fndP at h ⊢
  cases hf : L.find? (isP p) with
  | none => rw [hf] at h; cases h
  | some e =>
    have hm := List.mem_of_find?_eq_some hf
    have : L.any (isN e.n) = true := List.any_eq_true.2 ⟨e, hm, by simp [isN]⟩
    simp only [drp, this, if_true]
end
theorem NOk.val_at {L : List En} {es : List (Ent Str)} {cs : Nat} {en : List (Ent Int)} {cn : Nat} (h : NOk L es cs en cn) {e : En} (he : e ∈ L) : valOf e.n es = some (.int .i64 e.p) := by
  rw [valOf_iff h.ks, mem_pair, h.ps.mem_iff, List.mem_map]
  exact ⟨e, he, rfl⟩
/-- What is told, up to a number; 0: all. -/
def cutL (most : Int) (L : List En) : List En := if most ≤ 0 then L else L.take most.toNat
theorem cut_jump {most : Int} {L : List En} (h : 0 < most) : cutL most L = L.take most.toNat := by unfold cutL; rw [if_neg (by omega)]
theorem cut_all {most : Int} {L : List En} (h : most ≤ 0 ∨ (L.length : Int) < most) : cutL most L = L := by
  unfold cutL
  split
  · rfl
  · rw [List.take_of_length_le (by omega)]

theorem g_gone {w0 w : World} {R : List Chunk} {L : List En} {g : Nat} {C : Chunk} (hG : IsN L g C) (p : Int) (hst : St w0 w (C :: R)) : Calls Tryd.prog 15 #[.pointer (some ⟨g, 0, none⟩), .int .i64 p] w (Post1 w0 R fun u C => u = .tuple #[sv (fndP L p).1, .bool (fndP L p).2] ∧ IsN (gonL L p) g C) := by
  refine calls_of (args := [_, _]) Tryd.func15 rfl Tryd.ntmps15 hst ?_
  refine TC.seq ?_
  refine TC.region ?_
  refine TL.p (EvP.assign rfl) ?_
  refine TL.p (EvP.assign rfl) ?_
  refine TL.nil ?_
  refine TX.thenN rfl rfl ?_
  refine TC.seq ?_
  refine TC.region ?_
  refine TL.p (EvP.move rfl) ?_
  refine TL.p (EvP.move rfl) ?_
  refine TL.callB rfl rfl Tryd.call17 (fun w hs => g_name hG p hs) ?_
  rintro _ C9 ⟨rfl, hC9⟩
  replace hC9 := hC9.symm
  subst hC9
  refine TL.p (EvP.move rfl) ?_
  refine TL.p (EvP.extract rfl rfl) ?_
  refine TL.p (EvP.extract rfl rfl) ?_
  refine TL.p (EvP.assign rfl) ?_
  refine TL.p (EvP.assign rfl) ?_
  refine TL.nil ?_
  refine TX.thenN rfl rfl ?_
  refine TC.seq ?_
  refine TC.seq ?_
  refine TC.region ?_
  refine TL.p (EvP.move rfl) ?_
  refine TL.nil ?_
  refine TX.thenN rfl rfl ?_
  refine TC.cond rfl (fun h14 => ?_) (fun h14 => ?_)
  · refine TC.region ?_
    refine TL.p (EvP.move rfl) ?_
    refine TL.p (EvP.move rfl) ?_
    refine TL.callB rfl rfl Tryd.call14 (fun w hs => g_drop hG (fndP L p).1 hs) ?_
    rintro _ C2 ⟨rfl, hG2⟩
    refine TL.nil ?_
    refine TX.thenN rfl rfl ?_
    refine TC.seq ?_
    refine TC.region ?_
    refine TL.p (EvP.move rfl) ?_
    refine TL.p (EvP.move rfl) ?_
    refine TL.p (EvP.assign rfl) ?_
    refine TL.p (EvP.assign rfl) ?_
    refine TL.nil ?_
    refine TX.thenN rfl rfl ?_
    refine TC.ret ?_
    refine TX.done rfl (Res.two rfl rfl rfl) (fun w hs => Post1.mk (C := C2) hs ?_ (by repeat (first | exact Le.refl _ | exact Le.nil _ | refine Le.hit ?_ | refine Le.hit1 ?_ | refine Le.hit2 ?_ | refine Le.hit3 ?_ | refine Le.hit4 ?_ | refine Le.hit5 ?_ | refine Le.hit6 ?_ | refine Le.hit7 ?_ | refine Le.hit8 ?_ | refine Le.hit9 ?_ | refine Le.hit10 ?_ | refine Le.skip ?_)))
    exact ⟨rfl, by rw [gon_drp h14] at hG2; exact hG2⟩
  · refine TC.skip ?_
    refine TX.thenN rfl rfl ?_
    refine TC.seq ?_
    refine TC.region ?_
    refine TL.p (EvP.move rfl) ?_
    refine TL.p (EvP.move rfl) ?_
    refine TL.p (EvP.assign rfl) ?_
    refine TL.p (EvP.assign rfl) ?_
    refine TL.nil ?_
    refine TX.thenN rfl rfl ?_
    refine TC.ret ?_
    refine TX.done rfl (Res.two rfl rfl rfl) (fun w hs => Post1.mk (C := C) hs ?_ (by repeat (first | exact Le.refl _ | exact Le.nil _ | refine Le.hit ?_ | refine Le.hit1 ?_ | refine Le.hit2 ?_ | refine Le.hit3 ?_ | refine Le.hit4 ?_ | refine Le.hit5 ?_ | refine Le.hit6 ?_ | refine Le.hit7 ?_ | refine Le.hit8 ?_ | refine Le.hit9 ?_ | refine Le.hit10 ?_ | refine Le.skip ?_)))
    exact ⟨rfl, by rw [gon_no h14]; exact hG⟩

theorem All_spec {w0 w : World} {R : List Chunk} {gp : Option Addr} (hst : St w0 w R) : Calls Tryd.prog 24 #[.pointer gp] w (Post1 w0 R fun v C => ∃ b1, v = .func (.func 30) #[] #[.pointer (some ⟨b1, 0, none⟩)] ∧ C = [(b1, .cells [.pointer gp].toArray 23 (0, 0))]) := by
  refine calls_of (args := [_]) Tryd.func24 rfl Tryd.ntmps24 hst ?_
  refine TC.seq ?_
  refine TC.region ?_
  refine TL.box rfl rfl (fun b1 => ?_)
  refine TL.p (EvP.assign rfl) ?_
  refine TL.nil ?_
  refine TX.thenN rfl rfl ?_
  refine TC.seq ?_
  refine TC.region ?_
  refine TL.p (EvP.makeFunc rfl rfl) ?_
  refine TL.p (EvP.assign rfl) ?_
  refine TL.nil ?_
  refine TX.thenN rfl rfl ?_
  refine TC.ret ?_
  refine TX.done rfl (Res.one rfl rfl) (fun w hs => Post1.mk (C := [(b1, .cells [.pointer gp].toArray 23 (0, 0))]) hs ?_ (by repeat (first | exact Le.refl _ | exact Le.nil _ | refine Le.hit ?_ | refine Le.hit1 ?_ | refine Le.hit2 ?_ | refine Le.hit3 ?_ | refine Le.hit4 ?_ | refine Le.hit5 ?_ | refine Le.hit6 ?_ | refine Le.hit7 ?_ | refine Le.hit8 ?_ | refine Le.hit9 ?_ | refine Le.hit10 ?_ | refine Le.skip ?_)))
  exact ⟨b1, rfl, rfl⟩

theorem iter_all {g mw mn b1 : Nat} {L : List En} {es : List (Ent Str)} {cs : Nat} {en : List (Ent Int)} {cn : Nat} (hN : NOk L es cs en cn) : Iter Tryd.prog 30 [.pointer (some ⟨b1, 0, none⟩)] [[(b1, .cells [.pointer (some ⟨g, 0, none⟩)].toArray 23 (0, 0))], [(g, .cells [.map (some mw), .map (some mn)].toArray 54 (0, 0))], [(mw, mapObj kS (es) (cs))], [(mn, mapObj kI (en) (cn))]] (L.map fun e => [sv e.n, .int .i64 e.p]) := by
  intro w0 l J Jx hy R w hJ0 hst
  refine calls_of (args := [_, _]) Tryd.func30 rfl Tryd.ntmps30 hst ?_
  refine TC.seq ?_
  refine TC.seq ?_
  refine TC.region ?_
  refine TL.r (EvR.load rfl Tryd.isAgg23 (AtB.own (by repeat (first | exact Has.hd | refine Has.tlb ?_ | refine Has.tlc ?_))) (by rfl)) ?_
  refine TL.p (EvP.eqPtrNil Tryd.runUnderlying23 rfl rfl) ?_
  refine TL.nil ?_
  refine TX.thenN rfl rfl ?_
  refine TC.cfalse rfl ?_
  refine TC.skip ?_
  refine TX.thenN rfl rfl ?_
  refine TC.seq ?_
  refine TC.region ?_
  refine TL.p (EvP.assign rfl) ?_
  refine TL.nil ?_
  refine TX.thenN rfl rfl ?_
  refine TC.seq ?_
  refine TC.seq ?_
  refine TC.region ?_
  refine TL.r (EvR.load rfl Tryd.isAgg23 (AtB.own (by repeat (first | exact Has.hd | refine Has.tlb ?_ | refine Has.tlc ?_))) (by rfl)) ?_
  refine TL.p (EvP.nilP rfl) ?_
  refine TL.p (EvP.fa (e := 0) rfl Tryd.runUnderlying54 rfl Tryd.sizeOf51 rfl) ?_
  refine TL.r (EvR.load rfl Tryd.isAgg51 (AtB.own (by repeat (first | exact Has.hd | refine Has.tlb ?_ | refine Has.tlc ?_))) (by rfl)) ?_
  refine TL.range (ke := kS) Tryd.runUnderlying51 rfl (AtB.own (by repeat (first | exact Has.hd | refine Has.tlb ?_ | refine Has.tlc ?_))) (fun r => ?_)
  refine TL.le Le.nilC ?_
  refine TL.nil ?_
  refine TX.thenN rfl rfl ?_
  refine TC.block ?_
  refine TC.loop (ι := List (Ent Str) × Value × Chunk) (fun (D, v, C) => [(15, .pointer (some ⟨r, 0, none⟩)), (3, v), (0, .func (.yield l) #[] #[]), (1, .pointer (some ⟨b1, 0, none⟩))]) (fun (D, v, C) => [(r, iterObj mw cs D)] :: C :: [(b1, .cells [.pointer (some ⟨g, 0, none⟩)].toArray 23 (0, 0))] :: [(g, .cells [.map (some mw), .map (some mn)].toArray 54 (0, 0))] :: [(mw, mapObj kS (es) (cs))] :: [(mn, mapObj kI (en) (cn))] :: R) (fun (D, v, C) => (∀ x ∈ D, x ∈ es) ∧ D.Nodup ∧ SlS v (D.map (·.1)) C) (fun (D, v, C) => es.length - D.length) (([], .slice none 0 0, [])) (⟨by simp, by simp, Sl.nil⟩) ⟨rfl, rfl, rfl, rfl, trivial⟩ (by repeat (first | exact Le.refl _ | exact Le.nil _ | refine Le.hit ?_ | refine Le.hit1 ?_ | refine Le.hit2 ?_ | refine Le.hit3 ?_ | refine Le.hit4 ?_ | refine Le.hit5 ?_ | refine Le.hit6 ?_ | refine Le.hit7 ?_ | refine Le.hit8 ?_ | refine Le.hit9 ?_ | refine Le.hit10 ?_ | refine Le.skip ?_)) ?_
  rintro ⟨D, v, C⟩ ⟨hD, hND, hv⟩
  change TC _ _ [(15, .pointer (some ⟨r, 0, none⟩)), (3, v), (0, .func (.yield l) #[] #[]), (1, .pointer (some ⟨b1, 0, none⟩))] ([(r, iterObj mw cs D)] :: C :: [(b1, .cells [.pointer (some ⟨g, 0, none⟩)].toArray 23 (0, 0))] :: [(g, .cells [.map (some mw), .map (some mn)].toArray 54 (0, 0))] :: [(mw, mapObj kS (es) (cs))] :: [(mn, mapObj kI (en) (cn))] :: R) _
  refine TC.seq ?_
  refine TC.region ?_
  refine TL.next (ke := kS) (b := mw) (D := D) rfl (AtB.own (by repeat (first | exact Has.hd | refine Has.tlb ?_ | refine Has.tlc ?_))) hN.ss hD (by repeat (first | exact Has.hd | refine Has.tlb ?_ | refine Has.tlc ?_)) (fun hall => ?_) (fun e he hnD => ⟨_, (by repeat (first | exact Upd.hd | apply Upd.tlb | apply Upd.tlc)), ?_⟩)
  · refine TL.p (EvP.extract rfl rfl) ?_
    refine TL.nil ?_
    refine TX.thenN rfl rfl ?_
    refine TC.seq ?_
    refine TC.cfalse rfl ?_
    refine TC.exit ?_
    refine TX.thenE ?_
    refine TX.thenE ?_
    refine TX.blkH ?_
    refine TX.thenN rfl rfl ?_
    refine TC.seq ?_
    refine TC.region ?_
    refine TL.p (EvP.move rfl) ?_
    refine TL.le (Le.hit1 (Le.refl _)) ?_
    refine TL.callB rfl rfl Tryd.call31 (fun w hs => sort_spec hv hs (by have := nodup_len hND hD; have := hN.small; simp only [List.length_map]; omega)) ?_
    rintro _ C2 ⟨rfl, hv2⟩
    rw [hN.order hD hND hall] at hv2
    replace hv2 : SlS v (L.map (·.n)) C2 := hv2
    have hlenv : ∃ a cap, v = .slice a L.length cap := by obtain ⟨a, cap, e, _, _⟩ := hv2.len; exact ⟨a, cap, by rw [e, List.length_map]⟩
    obtain ⟨aN, capN, rfl⟩ := hlenv
    refine TL.nil ?_
    refine TX.thenN rfl rfl ?_
    refine TC.seq ?_
    refine TC.region ?_
    refine TL.p (EvP.move rfl) ?_
    refine TL.p (EvP.lenS Tryd.runUnderlying62 rfl) ?_
    refine TL.p (EvP.move rfl) ?_
    refine TL.nil ?_
    refine TX.thenN rfl rfl ?_
    refine TC.block ?_
    refine TC.loop (ι := Nat × List Chunk) (fun (i, Rj) => [(0, .func (.yield l) #[] #[]), (1, .pointer (some ⟨b1, 0, none⟩)), (26, .slice aN L.length capN), (27, .int .i64 L.length), (28, .int .i64 i)]) (fun (i, Rj) => C2 :: ([[(b1, .cells [.pointer (some ⟨g, 0, none⟩)].toArray 23 (0, 0))], [(g, .cells [.map (some mw), .map (some mn)].toArray 54 (0, 0))], [(mw, mapObj kS (es) (cs))], [(mn, mapObj kI (en) (cn))]] ++ Rj)) (fun (i, Rj) => i ≤ L.length ∧ J i Rj) (fun (i, Rj) => L.length - i) ((0, R)) (⟨Nat.zero_le _, hJ0⟩) ⟨rfl, rfl, rfl, rfl, rfl, trivial⟩ (by repeat (first | exact Le.refl _ | exact Le.nil _ | refine Le.hit ?_ | refine Le.hit1 ?_ | refine Le.hit2 ?_ | refine Le.hit3 ?_ | refine Le.hit4 ?_ | refine Le.hit5 ?_ | refine Le.hit6 ?_ | refine Le.hit7 ?_ | refine Le.hit8 ?_ | refine Le.hit9 ?_ | refine Le.hit10 ?_ | refine Le.skip ?_)) ?_
    rintro ⟨i, Rj⟩ ⟨hi, hJ⟩
    change TC _ _ [(0, .func (.yield l) #[] #[]), (1, .pointer (some ⟨b1, 0, none⟩)), (26, .slice aN L.length capN), (27, .int .i64 L.length), (28, .int .i64 i)] (C2 :: ([[(b1, .cells [.pointer (some ⟨g, 0, none⟩)].toArray 23 (0, 0))], [(g, .cells [.map (some mw), .map (some mn)].toArray 54 (0, 0))], [(mw, mapObj kS (es) (cs))], [(mn, mapObj kI (en) (cn))]] ++ Rj)) _
    have hsm := hN.ok.len
    refine TC.seq ?_
    refine TC.region ?_
    refine TL.dec (EvP.lt rfl rfl) (fun h29 => ?_) (fun h29 => ?_)
    · refine TL.nil ?_
      refine TX.thenN rfl rfl ?_
      refine TC.seq ?_
      refine TC.ctrue rfl ?_
      refine TC.skip ?_
      refine TX.thenN rfl rfl ?_
      refine TC.seq ?_
      refine TC.block ?_
      refine TC.seq ?_
      refine TC.region ?_
      have hi2 : i < L.length := by omega
      obtain ⟨e, hx⟩ : ∃ e, L[i]? = some e := ⟨_, List.getElem?_eq_getElem hi2⟩
      have hve := hN.val_at (List.mem_of_getElem? hx)
      refine TL.elem (hv2.el encS_ok (j := i) (x := e.n) (by rw [List.getElem?_map, hx]; rfl) (by simp)) Tryd.runUnderlying62 Tryd.sizeOf9 rfl rfl (fun bE oE lE _ _ hE hcE => ?_)
      refine TL.r (EvR.load rfl Tryd.isAgg9 hE hcE.1) ?_
      refine TL.p (EvP.assign rfl) ?_
      refine TL.nil ?_
      refine TX.thenN rfl rfl ?_
      refine TC.seq ?_
      refine TC.region ?_
      refine TL.r (EvR.load rfl Tryd.isAgg23 (AtB.own (by repeat (first | exact Has.hd | refine Has.tlb ?_ | refine Has.tlc ?_))) (by rfl)) ?_
      refine TL.p (EvP.nilP rfl) ?_
      refine TL.p (EvP.fa (e := 0) rfl Tryd.runUnderlying54 rfl Tryd.sizeOf51 rfl) ?_
      refine TL.r (EvR.load rfl Tryd.isAgg51 (AtB.own (by repeat (first | exact Has.hd | refine Has.tlb ?_ | refine Has.tlc ?_))) (by rfl)) ?_
      refine TL.p (EvP.move rfl) ?_
      refine TL.r (EvR.lookupOkY (ke := kS) kSm Tryd.runUnderlying51 Tryd.zeroValue2 hve rfl rfl (AtB.own (by repeat (first | exact Has.hd | refine Has.tlb ?_ | refine Has.tlc ?_)))) ?_
      refine TL.p (EvP.move rfl) ?_
      refine TL.p (EvP.extract rfl rfl) ?_
      refine TL.p (EvP.extract rfl rfl) ?_
      refine TL.p (EvP.assign rfl) ?_
      refine TL.p (EvP.assign rfl) ?_
      refine TL.nil ?_
      refine TX.thenN rfl rfl ?_
      refine TC.seq ?_
      refine TC.region ?_
      refine TL.p (EvP.move rfl) ?_
      refine TL.p (EvP.move rfl) ?_
      refine TL.gY rfl rfl rfl ?_
      refine TL.p (EvP.move rfl) ?_
      refine TL.gY rfl rfl rfl ?_
      refine TL.p (EvP.move rfl) ?_
      refine TL.gY rfl rfl rfl ?_
      refine TL.p (EvP.move rfl) ?_
      refine TL.gY rfl rfl rfl ?_
      refine TL.yield (A := J (i + 1)) (B := Jx) (G := fun R2 => [C2] ++ ([[(b1, .cells [.pointer (some ⟨g, 0, none⟩)].toArray 23 (0, 0))], [(g, .cells [.map (some mw), .map (some mn)].toArray 54 (0, 0))], [(mw, mapObj kS (es) (cs))], [(mn, mapObj kI (en) (cn))]] ++ R2)) rfl rfl rfl (fun w hs => hy i [sv e.n, .int .i64 e.p] (by rw [List.getElem?_map, hx]; rfl) Rj w [C2] hJ hs) (fun R2 hR2 => ?_) (fun R2 hR2 => ?_)
      · refine TL.gY rfl rfl rfl ?_
        refine TL.p (EvP.not rfl) ?_
        refine TL.p (EvP.pickT rfl rfl) ?_
        refine TL.nil ?_
        refine TX.thenN rfl rfl ?_
        refine TC.cfalse rfl ?_
        refine TC.skip ?_
        refine TX.blkN ?_
        refine TX.thenN rfl rfl ?_
        refine TC.region ?_
        refine TL.p (EvP.add rfl rfl (by omega)) ?_
        refine TL.p (EvP.move rfl) ?_
        refine TL.nil ?_
        refine TX.back ((i + 1, R2)) (⟨by omega, hR2⟩) (by simp only; omega) ⟨rfl, rfl, rfl, rfl, rfl, trivial⟩ (by repeat (first | exact Le.refl _ | exact Le.nil _ | refine Le.hit ?_ | refine Le.hit1 ?_ | refine Le.hit2 ?_ | refine Le.hit3 ?_ | refine Le.hit4 ?_ | refine Le.hit5 ?_ | refine Le.hit6 ?_ | refine Le.hit7 ?_ | refine Le.hit8 ?_ | refine Le.hit9 ?_ | refine Le.hit10 ?_ | refine Le.skip ?_))
      · refine TL.gY rfl rfl rfl ?_
        refine TL.p (EvP.not rfl) ?_
        refine TL.p (EvP.pickT rfl rfl) ?_
        refine TL.nil ?_
        refine TX.thenN rfl rfl ?_
        refine TC.ctrue rfl ?_
        refine TC.ret ?_
        refine TX.blkR ?_
        refine TX.thenR ?_
        refine TX.thenR ?_
        refine TX.blkR ?_
        refine TX.done rfl (Res.none rfl) (fun w hs => ⟨rfl, R2, .inr hR2, hs.le (by repeat (first | exact Le.refl _ | exact Le.nil _ | refine Le.hit ?_ | refine Le.hit1 ?_ | refine Le.hit2 ?_ | refine Le.hit3 ?_ | refine Le.hit4 ?_ | refine Le.hit5 ?_ | refine Le.hit6 ?_ | refine Le.hit7 ?_ | refine Le.hit8 ?_ | refine Le.hit9 ?_ | refine Le.hit10 ?_ | refine Le.skip ?_))⟩)
    · refine TL.nil ?_
      refine TX.thenN rfl rfl ?_
      refine TC.seq ?_
      refine TC.cfalse rfl ?_
      refine TC.exit ?_
      refine TX.thenE ?_
      refine TX.thenE ?_
      refine TX.blkH ?_
      have hi3 : i = L.length := by omega
      refine TX.doneN rfl (Res.none rfl) (fun w hs => ⟨rfl, Rj, .inl ?_, hs.le (by repeat (first | exact Le.refl _ | exact Le.nil _ | refine Le.hit ?_ | refine Le.hit1 ?_ | refine Le.hit2 ?_ | refine Le.hit3 ?_ | refine Le.hit4 ?_ | refine Le.hit5 ?_ | refine Le.hit6 ?_ | refine Le.hit7 ?_ | refine Le.hit8 ?_ | refine Le.hit9 ?_ | refine Le.hit10 ?_ | refine Le.skip ?_))⟩)
      rw [List.length_map, ← hi3]; exact hJ
  · refine TL.p (EvP.extract rfl rfl) ?_
    refine TL.nil ?_
    refine TX.thenN rfl rfl ?_
    refine TC.seq ?_
    refine TC.ctrue rfl ?_
    refine TC.skip ?_
    refine TX.thenN rfl rfl ?_
    refine TC.block ?_
    refine TC.seq ?_
    refine TC.region ?_
    refine TL.r (EvR.entry (ke := kS) (b := mw) (D := D) rfl (AtB.own (by repeat (first | exact Has.hd | refine Has.tlb ?_ | refine Has.tlc ?_))) (AtB.own (by repeat (first | exact Has.hd | refine Has.tlb ?_ | refine Has.tlc ?_))) hN.ss he) ?_
    refine TL.p (EvP.extract rfl rfl) ?_
    refine TL.p (EvP.assign rfl) ?_
    refine TL.nil ?_
    refine TX.thenN rfl rfl ?_
    refine TC.region ?_
    refine TL.p (EvP.move rfl) ?_
    refine TL.p (EvP.move rfl) ?_
    refine TL.lit1 (e.1) rfl elS Tryd.underlying62 (by decide) (by decide) encS_ok rfl (fun u1 D2 hD2 => ?_)
    refine TL.le (Le.hit2 (Le.refl _)) ?_
    refine TL.append rfl rfl elS Tryd.underlying62 encS_ok hv (SrcR.sl Tryd.underlying62 encS_ok hD2 (by simp)) (by have := nodup_len hND hD; have := hN.small; simp only [List.length_map, List.length_singleton]; omega) (by decide) (fun v3 C4 hC4 => ?_)
    refine TL.p (EvP.assign rfl) ?_
    refine TL.nil ?_
    refine TX.blkN ?_
    refine TX.back ((D ++ [e], v3, C4)) (⟨fun x hx => (List.mem_append.1 hx).elim (hD x) (fun h => List.mem_singleton.1 h ▸ he), nodup_snoc hND hnD, by rw [List.map_append]; exact hC4⟩) (by have := nodup_room hND hD he hnD; simp only [List.length_append, List.length_singleton]; omega) ⟨rfl, rfl, rfl, rfl, trivial⟩ (by repeat (first | exact Le.refl _ | exact Le.nil _ | refine Le.hit ?_ | refine Le.hit1 ?_ | refine Le.hit2 ?_ | refine Le.hit3 ?_ | refine Le.hit4 ?_ | refine Le.hit5 ?_ | refine Le.hit6 ?_ | refine Le.hit7 ?_ | refine Le.hit8 ?_ | refine Le.hit9 ?_ | refine Le.hit10 ?_ | refine Le.skip ?_))

theorem all_raw {w0 w : World} {R : List Chunk} {g mw mn : Nat} {L : List En} {es : List (Ent Str)} {cs : Nat} {en : List (Ent Int)} {cn : Nat} (hN : NOk L es cs en cn) (most : Int) (hst : St w0 w ([(g, .cells [.map (some mw), .map (some mn)].toArray 54 (0, 0))] :: [(mw, mapObj kS (es) (cs))] :: [(mn, mapObj kI (en) (cn))] :: R)) : Calls Tryd.prog 11 #[.pointer (some ⟨g, 0, none⟩), .int .i64 most] w (Post1 w0 ([(g, .cells [.map (some mw), .map (some mn)].toArray 54 (0, 0))] :: [(mw, mapObj kS (es) (cs))] :: [(mn, mapObj kI (en) (cn))] :: R) fun u C => Sl 45 2 En.enc u (cutL most L) C) := by
  refine calls_of (args := [_, _]) Tryd.func11 rfl Tryd.ntmps11 hst ?_
  refine TC.seq ?_
  refine TC.region ?_
  refine TL.box rfl rfl (fun b3 => ?_)
  refine TL.p (EvP.assign rfl) ?_
  refine TL.nil ?_
  refine TX.thenN rfl rfl ?_
  refine TC.seq ?_
  refine TC.region ?_
  refine TL.alloc Tryd.zeroValue26 rfl (fun b5 => ?_)
  refine TL.nil ?_
  refine TX.thenN rfl rfl ?_
  refine TC.seq ?_
  refine TC.region ?_
  refine TL.p (EvP.move rfl) ?_
  refine TL.callB rfl rfl Tryd.call24 (fun w hs => All_spec hs) ?_
  rintro _ _ ⟨b1, rfl, rfl⟩
  refine TL.p (EvP.assign rfl) ?_
  refine TL.nil ?_
  refine TX.thenN rfl rfl ?_
  refine TC.seq ?_
  refine TC.seq ?_
  refine TC.region ?_
  refine TL.p (EvP.move rfl) ?_
  refine TL.p (EvP.eqFnNil Tryd.runUnderlying56 rfl rfl) ?_
  refine TL.nil ?_
  refine TX.thenN rfl rfl ?_
  refine TC.cfalse rfl ?_
  refine TC.skip ?_
  refine TX.thenN rfl rfl ?_
  refine TC.seq ?_
  refine TC.seq ?_
  refine TC.region ?_
  refine TL.p (EvP.move rfl) ?_
  refine TL.nil ?_
  refine TX.thenN rfl rfl ?_
  refine TC.block ?_
  refine TC.le (H' := [(b1, .cells [.pointer (some ⟨g, 0, none⟩)].toArray 23 (0, 0))] :: [(g, .cells [.map (some mw), .map (some mn)].toArray 54 (0, 0))] :: [(mw, mapObj kS (es) (cs))] :: [(mn, mapObj kI (en) (cn))] :: [(b5, .cells [.slice none 0 0].toArray 26 (0, 0))] :: ([] : Chunk) :: [(b3, .cells [.int .i64 most].toArray 3 (0, 0))] :: R) (Le.trans (Le.hit (Le.hit (Le.hit (Le.hit (Le.hit (Le.nilC)))))) (by repeat (first | exact Le.refl _ | exact Le.nil _ | refine Le.hit ?_ | refine Le.hit1 ?_ | refine Le.hit2 ?_ | refine Le.hit3 ?_ | refine Le.hit4 ?_ | refine Le.hit5 ?_ | refine Le.hit6 ?_ | refine Le.hit7 ?_ | refine Le.hit8 ?_ | refine Le.hit9 ?_ | refine Le.hit10 ?_ | refine Le.skip ?_))) ?_
  refine TC.rangeF (Hit := [[(b1, .cells [.pointer (some ⟨g, 0, none⟩)].toArray 23 (0, 0))], [(g, .cells [.map (some mw), .map (some mn)].toArray 54 (0, 0))], [(mw, mapObj kS (es) (cs))], [(mn, mapObj kI (en) (cn))]]) (R0 := [(b5, .cells [.slice none 0 0].toArray 26 (0, 0))] :: ([] : Chunk) :: [(b3, .cells [.int .i64 most].toArray 3 (0, 0))] :: R) rfl rfl Tryd.call30 (iter_all hN) (by intro x hx; obtain ⟨b, _, rfl⟩ := List.mem_map.1 hx; rfl) rfl (Le.refl _)
    (fun i R2 => ∃ u Cu, R2 = ([(b5, .cells [u].toArray 26 (0, 0))] :: Cu :: [(b3, .cells [.int .i64 most].toArray 3 (0, 0))] :: R) ∧ Sl 45 2 En.enc u (L.take i) Cu ∧ (most ≤ 0 ∨ (i : Int) < most))
    (fun j R2 => j = some 0 ∧ ∃ u Cu, R2 = ([(b5, .cells [u].toArray 26 (0, 0))] :: Cu :: [(b3, .cells [.int .i64 most].toArray 3 (0, 0))] :: R) ∧ Sl 45 2 En.enc u (L.take most.toNat) Cu ∧ 0 < most) ⟨_, _, rfl, Sl.nil, by omega⟩ ?_ ?_ ?_
  · rintro l i x _ HL HL2 hx ⟨u, Cu, rfl, hu, him⟩
    obtain ⟨b, hb, rfl⟩ : ∃ b, L[i]? = some b ∧ x = [sv b.n, .int .i64 b.p] := by rw [List.getElem?_map, Option.map_eq_some_iff] at hx; obtain ⟨b, h1, h2⟩ := hx; exact ⟨b, h1, h2.symm⟩
    have hlt := (List.getElem?_eq_some_iff.1 hb).1
    have hsm := hN.ok.len
    refine TC.seq ?_
    refine TC.region ?_
    refine TL.p (EvP.assign rfl) ?_
    refine TL.nil ?_
    refine TX.thenN rfl rfl ?_
    refine TC.region ?_
    refine TL.p (EvP.assign rfl) ?_
    refine TL.nil ?_
    refine TX.begin (R2 := [(b5, .cells [u].toArray 26 (0, 0))] :: Cu :: [(b3, .cells [.int .i64 most].toArray 3 (0, 0))] :: R) ?_
    refine TC.block ?_
    refine TC.seq ?_
    refine TC.region ?_
    refine TL.r (EvR.load rfl Tryd.isAgg26 (AtB.own (by repeat (first | exact Has.hd | refine Has.tlb ?_ | refine Has.tlc ?_))) (by rfl)) ?_
    refine TL.p (EvP.move rfl) ?_
    refine TL.p (EvP.move rfl) ?_
    refine TL.p (EvP.buildS (is := [0, 1]) (xs := [_, _]) rfl Tryd.runUnderlying45 Tryd.zeroValue45 rfl (.cons Tryd.sizeOf9 (.cons Tryd.sizeOf2 .nil)) rfl rfl rfl) ?_
    refine TL.lit1 (b) rfl elN Tryd.underlying26 (by decide) (by decide) encN_ok rfl (fun u1 D2 hD2 => ?_)
    refine TL.le (Le.hit2 (Le.refl _)) ?_
    refine TL.append rfl rfl elN Tryd.underlying26 encN_ok hu (SrcR.sl Tryd.underlying26 encN_ok hD2 (by simp)) (by rw [List.length_take]; simp only [List.length_singleton]; omega) (by decide) (fun v3 C4 hC4 => ?_)
    refine TL.u (EvU.store1 rfl rfl Tryd.sizeOf26 (by first | rfl | (apply Sl.one; assumption)) (by repeat (first | exact Has.hd | refine Has.tlb ?_ | refine Has.tlc ?_)) (by repeat (first | exact SetL.here | apply SetL.there)) (by repeat (first | exact Upd.hd | apply Upd.tlb | apply Upd.tlc))) ?_
    refine TL.nil ?_
    refine TX.thenN rfl rfl ?_
    refine TC.seq ?_
    refine TC.region ?_
    refine TL.r (EvR.load rfl Tryd.isAgg26 (AtB.own (by repeat (first | exact Has.hd | refine Has.tlb ?_ | refine Has.tlc ?_))) (by rfl)) ?_
    obtain ⟨q1, q2, hq, _, _⟩ := hC4.len
    subst hq
    refine TL.p (EvP.lenS Tryd.runUnderlying26 rfl) ?_
    refine TL.r (EvR.load rfl Tryd.isAgg3 (AtB.own (by repeat (first | exact Has.hd | refine Has.tlb ?_ | refine Has.tlc ?_))) (by rfl)) ?_
    refine TL.dec (EvP.eq rfl rfl) (fun h25 => ?_) (fun h25 => ?_)
    · refine TL.nil ?_
      refine TX.thenN rfl rfl ?_
      refine TC.ctrue rfl ?_
      refine TC.exit ?_
      refine TX.blkM rfl ?_
      simp only [List.length_append, List.length_take, List.length_singleton] at h25
      refine TX.roundE (R' := [(b5, .cells [(.slice q1 _ q2)].toArray 26 (0, 0))] :: C4 :: [(b3, .cells [.int .i64 most].toArray 3 (0, 0))] :: R) ⟨rfl, _, C4, rfl, ?_, by omega⟩ (by simp only [List.cons_append, List.nil_append]; repeat (first | exact Le.refl _ | exact Le.nil _ | refine Le.hit ?_ | refine Le.hit1 ?_ | refine Le.hit2 ?_ | refine Le.hit3 ?_ | refine Le.hit4 ?_ | refine Le.hit5 ?_ | refine Le.hit6 ?_ | refine Le.hit7 ?_ | refine Le.hit8 ?_ | refine Le.hit9 ?_ | refine Le.hit10 ?_ | refine Le.skip ?_))
      rw [show most.toNat = i + 1 from by omega, take_snoc hb]; exact hC4
    · refine TL.nil ?_
      refine TX.thenN rfl rfl ?_
      refine TC.cfalse rfl ?_
      refine TC.skip ?_
      refine TX.blkN ?_
      simp only [List.length_append, List.length_take, List.length_singleton] at h25
      refine TX.roundN (R' := [(b5, .cells [(.slice q1 _ q2)].toArray 26 (0, 0))] :: C4 :: [(b3, .cells [.int .i64 most].toArray 3 (0, 0))] :: R) ⟨_, C4, rfl, ?_, ?_⟩ (by simp only [List.cons_append, List.nil_append]; repeat (first | exact Le.refl _ | exact Le.nil _ | refine Le.hit ?_ | refine Le.hit1 ?_ | refine Le.hit2 ?_ | refine Le.hit3 ?_ | refine Le.hit4 ?_ | refine Le.hit5 ?_ | refine Le.hit6 ?_ | refine Le.hit7 ?_ | refine Le.hit8 ?_ | refine Le.hit9 ?_ | refine Le.hit10 ?_ | refine Le.skip ?_))
      · rw [take_snoc hb]; exact hC4
      · omega
  · rintro dd _ ⟨u, Cu, rfl, hu, him⟩
    refine TX.le Le.comm2 ?_
    refine TX.blkN ?_
    refine TX.thenN rfl rfl ?_
    refine TC.seq ?_
    refine TC.region ?_
    refine TL.r (EvR.load rfl Tryd.isAgg26 (AtB.own (by repeat (first | exact Has.hd | refine Has.tlb ?_ | refine Has.tlc ?_))) (by rfl)) ?_
    refine TL.p (EvP.assign rfl) ?_
    refine TL.nil ?_
    refine TX.thenN rfl rfl ?_
    refine TC.ret ?_
    refine TX.doneM rfl (by repeat (first | exact Upd.hd | apply Upd.tlb | apply Upd.tlc)) (Res.one rfl rfl) (fun w hs => Post1.mk (C := Cu) hs ?_ (by simp only [List.cons_append, List.nil_append]; repeat (first | exact Le.refl _ | exact Le.nil _ | refine Le.hit ?_ | refine Le.hit1 ?_ | refine Le.hit2 ?_ | refine Le.hit3 ?_ | refine Le.hit4 ?_ | refine Le.hit5 ?_ | refine Le.hit6 ?_ | refine Le.hit7 ?_ | refine Le.hit8 ?_ | refine Le.hit9 ?_ | refine Le.hit10 ?_ | refine Le.skip ?_)))
    rw [List.length_map] at hu him
    rw [List.take_length] at hu
    rw [cut_all him]; exact hu
  · rintro dd _ _ ⟨rfl, u, Cu, rfl, hu, hm0⟩
    refine TC.le Le.comm2 ?_
    refine TC.exit ?_
    refine TX.blkH ?_
    refine TX.thenN rfl rfl ?_
    refine TC.seq ?_
    refine TC.region ?_
    refine TL.r (EvR.load rfl Tryd.isAgg26 (AtB.own (by repeat (first | exact Has.hd | refine Has.tlb ?_ | refine Has.tlc ?_))) (by rfl)) ?_
    refine TL.p (EvP.assign rfl) ?_
    refine TL.nil ?_
    refine TX.thenN rfl rfl ?_
    refine TC.ret ?_
    refine TX.doneM rfl (by repeat (first | exact Upd.hd | apply Upd.tlb | apply Upd.tlc)) (Res.one rfl rfl) (fun w hs => Post1.mk (C := Cu) hs ?_ (by simp only [List.cons_append, List.nil_append]; repeat (first | exact Le.refl _ | exact Le.nil _ | refine Le.hit ?_ | refine Le.hit1 ?_ | refine Le.hit2 ?_ | refine Le.hit3 ?_ | refine Le.hit4 ?_ | refine Le.hit5 ?_ | refine Le.hit6 ?_ | refine Le.hit7 ?_ | refine Le.hit8 ?_ | refine Le.hit9 ?_ | refine Le.hit10 ?_ | refine Le.skip ?_)))
    rw [cut_jump hm0]; exact hu

theorem g_all {w0 w : World} {R : List Chunk} {L : List En} {g : Nat} {C : Chunk} (hG : IsN L g C) (most : Int) (hst : St w0 w (C :: R)) : Calls Tryd.prog 11 #[.pointer (some ⟨g, 0, none⟩), .int .i64 most] w (Post1 w0 (C :: R) fun u E => Sl 45 2 En.enc u (cutL most L) E) := by
  obtain ⟨mw, mn, es, cs, en, cn, rfl, hN⟩ := hG
  exact calls3 (all_raw hN most (hst.le Le.open3)) (fun u E h => h)
end Go.Proofs.YtocohlcmkbnegaaDoor
