/-
  What is wrong of what is handed in.
-/
import Derived.Test.YtdbpandamnkpdaaDoorSe
set_option linter.unusedSimpArgs false
set_option linter.unusedVariables false
set_option maxRecDepth 100000
namespace Go.Proofs.YtdbpandamnkpdaaDoor
open Go Go.RowKit Go.Lib

theorem not_next {l : List Int} {i : Nat} {x q : Int} (hx : l[i]? = some x) (hn : x ≠ q) (h : q ∉ l.take i) : q ∉ l.take (i + 1) := by
  rw [List.take_add_one, hx]
  simp only [Option.toList_some, List.mem_append, List.mem_singleton, not_or]
  exact ⟨h, fun e => hn e.symm⟩
theorem not_nextD {l : List Dv} {i : Nat} {x : Dv} {q : Int} (hx : l[i]? = some x) (hn : ¬ x.p = q) (h : q ∉ (l.take i).map (·.p)) : q ∉ (l.take (i + 1)).map (·.p) := by
  rw [List.take_add_one, hx]
  simp only [Option.toList_some, List.map_append, List.map_cons, List.map_nil, List.mem_append, List.mem_singleton, not_or]
  exact ⟨h, fun e => hn e.symm⟩
theorem pids_take {S : World → Prop} {dvs : List Dv} {ds : List Dth} (h : Rel S dvs ds) {i : Nat} : (dvs.take i).map (·.p) = (ds.map (·.1)).take i := by rw [← h.pids, List.map_take]

theorem notpid_spec {w0 w : World} {R : List Chunk} (n : Int) (hst : St w0 w R) : Calls Tryd.prog 53 #[.int .i64 n] w (Post0 w0 R fun v => v = .bool (!okPid n)) := by
  refine calls_of (args := [_]) Tryd.func53 rfl Tryd.ntmps53 hst ?_
  refine TC.seq ?_
  refine TC.region ?_
  refine TL.p (EvP.assign rfl) ?_
  refine TL.nil ?_
  refine TX.thenN rfl rfl ?_
  refine TC.seq ?_
  refine TC.region ?_
  refine TL.p (EvP.move rfl) ?_
  refine TL.callA rfl rfl Tryd.call26 (fun w hs => pid_spec _ hs) ?_
  rintro _ rfl
  refine TL.p (EvP.not rfl) ?_
  refine TL.p (EvP.assign rfl) ?_
  refine TL.nil ?_
  refine TX.thenN rfl rfl ?_
  refine TC.ret ?_
  refine TX.done rfl (Res.one rfl rfl) (fun w hs => Post0.mk hs ?_ (by repeat (first | exact Le.refl _ | exact Le.nil _ | refine Le.hit ?_ | refine Le.hit1 ?_ | refine Le.hit2 ?_ | refine Le.hit3 ?_ | refine Le.hit4 ?_ | refine Le.hit5 ?_ | refine Le.hit6 ?_ | refine Le.hit7 ?_ | refine Le.hit8 ?_ | refine Le.hit9 ?_ | refine Le.hit10 ?_ | refine Le.skip ?_)))
  rfl

theorem samepid_spec {w0 w : World} {R : List Chunk} {b : Nat} {p : Int} {a : Option Addr} {n c : Nat} (x : Dv) (hst : St w0 w ([(b, .cells [.int .i64 p, .slice a n c].toArray 48 (0, 0))] :: R)) : Calls Tryd.prog 56 #[x.v, .pointer (some ⟨b, 0, none⟩)] w (Post0 w0 ([(b, .cells [.int .i64 p, .slice a n c].toArray 48 (0, 0))] :: R) fun v => v = .bool (decide (x.p = p))) := by
  refine calls_of (args := [_, _]) Tryd.func56 rfl Tryd.ntmps56 hst ?_
  refine TC.seq ?_
  refine TC.region ?_
  refine TL.box rfl rfl (fun b2 => ?_)
  refine TL.p (EvP.assign rfl) ?_
  refine TL.nil ?_
  refine TX.thenN rfl rfl ?_
  refine TC.seq ?_
  refine TC.region ?_
  refine TL.p (EvP.fa (e := 0) rfl Tryd.runUnderlying48 rfl Tryd.sizeOf2 rfl) ?_
  refine TL.r (EvR.load rfl Tryd.isAgg2 (AtB.own (by repeat (first | exact Has.hd | refine Has.tlb ?_ | refine Has.tlc ?_))) (by rfl)) ?_
  refine TL.p (EvP.fa (e := 0) rfl Tryd.runUnderlying48 rfl Tryd.sizeOf2 rfl) ?_
  refine TL.r (EvR.load rfl Tryd.isAgg2 (AtB.own (by repeat (first | exact Has.hd | refine Has.tlb ?_ | refine Has.tlc ?_))) (by rfl)) ?_
  refine TL.p (EvP.eq rfl rfl) ?_
  refine TL.p (EvP.assign rfl) ?_
  refine TL.nil ?_
  refine TX.thenN rfl rfl ?_
  refine TC.ret ?_
  refine TX.done rfl (Res.one rfl rfl) (fun w hs => Post0.mk hs ?_ (by repeat (first | exact Le.refl _ | exact Le.nil _ | refine Le.hit ?_ | refine Le.hit1 ?_ | refine Le.hit2 ?_ | refine Le.hit3 ?_ | refine Le.hit4 ?_ | refine Le.hit5 ?_ | refine Le.hit6 ?_ | refine Le.hit7 ?_ | refine Le.hit8 ?_ | refine Le.hit9 ?_ | refine Le.hit10 ?_ | refine Le.skip ?_)))
  rfl

theorem ix_pid {w0 w : World} {R : List Chunk} {v : Value} {xs : List Int} (he : Els (fun w => St w0 w R) v 1 (one (Value.int .i64)) 2 xs) (hsz : xs.length < 4611686018427387904) (hst : St w0 w R) : Calls Tryd.prog 69 #[v, .func (.func 53) #[] #[]] w (Post0 w0 R fun u => ∃ n : Int, u = .int .i64 n ∧ (0 ≤ n ↔ xs.all okPid = false)) := by
  obtain ⟨⟨a0, cap, rfl⟩, he2⟩ := id he
  refine calls_of (args := [_, _]) Tryd.func69 rfl Tryd.ntmps69 hst ?_
  refine TC.seq ?_
  refine TC.region ?_
  refine TL.p (EvP.assign rfl) ?_
  refine TL.nil ?_
  refine TX.thenN rfl rfl ?_
  refine TC.seq ?_
  refine TC.seq ?_
  refine TC.region ?_
  refine TL.p (EvP.move rfl) ?_
  refine TL.p (EvP.lenS Tryd.runUnderlying35 rfl) ?_
  refine TL.p (EvP.move rfl) ?_
  refine TL.nil ?_
  refine TX.thenN rfl rfl ?_
  refine TC.block ?_
  refine TC.loop (ι := Nat) (fun i => [(0, .slice a0 xs.length cap), (1, .func (.func 53) #[] #[]), (6, .slice a0 xs.length cap), (7, .int .i64 xs.length), (8, .int .i64 i)]) (fun i => R) (fun i => i ≤ xs.length ∧ (xs.take i).all okPid = true) (fun i => xs.length - i) (0) (⟨Nat.zero_le _, by simp⟩) ⟨rfl, rfl, rfl, rfl, rfl, trivial⟩ (by repeat (first | exact Le.refl _ | exact Le.nil _ | refine Le.hit ?_ | refine Le.hit1 ?_ | refine Le.hit2 ?_ | refine Le.hit3 ?_ | refine Le.hit4 ?_ | refine Le.hit5 ?_ | refine Le.hit6 ?_ | refine Le.hit7 ?_ | refine Le.hit8 ?_ | refine Le.hit9 ?_ | refine Le.hit10 ?_ | refine Le.skip ?_)) ?_
  rintro i ⟨hi, hall⟩
  change TC _ _ [(0, .slice a0 xs.length cap), (1, .func (.func 53) #[] #[]), (6, .slice a0 xs.length cap), (7, .int .i64 xs.length), (8, .int .i64 i)] (R) _
  refine TC.seq ?_
  refine TC.region ?_
  refine TL.dec (EvP.lt rfl rfl) (fun h9 => ?_) (fun h9 => ?_)
  · refine TL.nil ?_
    refine TX.thenN rfl rfl ?_
    refine TC.seq ?_
    refine TC.ctrue rfl ?_
    refine TC.skip ?_
    refine TX.thenN rfl rfl ?_
    refine TC.seq ?_
    refine TC.block ?_
    refine TC.seq ?_
    refine TC.region ?_
    refine TL.p (EvP.move rfl) ?_
    refine TL.p (EvP.assign rfl) ?_
    refine TL.nil ?_
    refine TX.thenN rfl rfl ?_
    refine TC.seq ?_
    refine TC.region ?_
    refine TL.p (EvP.move rfl) ?_
    refine TL.p (EvP.move rfl) ?_
    refine TL.p (EvP.move rfl) ?_
    have hlt : i < xs.length := by omega
    obtain ⟨x, hx⟩ : ∃ x, xs[i]? = some x := ⟨_, List.getElem?_eq_getElem hlt⟩
    refine TL.elem (he2 i x hx) Tryd.runUnderlying35 Tryd.sizeOf2 rfl rfl (fun bE oE lE _ _ hE hcE => ?_)
    refine TL.r (EvR.load rfl Tryd.isAgg2 hE hcE.1) ?_
    refine TL.callA rfl rfl Tryd.call53 (fun w hs => notpid_spec _ hs) ?_
    rintro _ rfl
    refine TL.nil ?_
    refine TX.thenN rfl rfl ?_
    refine TC.cond rfl (fun h16 => ?_) (fun h16 => ?_)
    · refine TC.seq ?_
      refine TC.region ?_
      refine TL.p (EvP.move rfl) ?_
      refine TL.p (EvP.assign rfl) ?_
      refine TL.nil ?_
      refine TX.thenN rfl rfl ?_
      refine TC.ret ?_
      refine TX.blkR ?_
      refine TX.thenR ?_
      refine TX.thenR ?_
      refine TX.blkR ?_
      refine TX.thenR ?_
      refine TX.done rfl (Res.one rfl rfl) (fun w hs => Post0.mk hs ?_ (by repeat (first | exact Le.refl _ | exact Le.nil _ | refine Le.hit ?_ | refine Le.hit1 ?_ | refine Le.hit2 ?_ | refine Le.hit3 ?_ | refine Le.hit4 ?_ | refine Le.hit5 ?_ | refine Le.hit6 ?_ | refine Le.hit7 ?_ | refine Le.hit8 ?_ | refine Le.hit9 ?_ | refine Le.hit10 ?_ | refine Le.skip ?_)))
      exact ⟨_, rfl, ⟨fun _ => allT_no hx (by simpa using h16), fun _ => by omega⟩⟩
    · refine TC.skip ?_
      refine TX.blkN ?_
      refine TX.thenN rfl rfl ?_
      refine TC.region ?_
      refine TL.p (EvP.add rfl rfl (by omega)) ?_
      refine TL.p (EvP.move rfl) ?_
      refine TL.nil ?_
      refine TX.back (i + 1) (⟨by omega, allT_next hx (by simpa using h16) hall⟩) (by omega) ⟨rfl, rfl, rfl, rfl, rfl, trivial⟩ (by repeat (first | exact Le.refl _ | exact Le.nil _ | refine Le.hit ?_ | refine Le.hit1 ?_ | refine Le.hit2 ?_ | refine Le.hit3 ?_ | refine Le.hit4 ?_ | refine Le.hit5 ?_ | refine Le.hit6 ?_ | refine Le.hit7 ?_ | refine Le.hit8 ?_ | refine Le.hit9 ?_ | refine Le.hit10 ?_ | refine Le.skip ?_))
  · refine TL.nil ?_
    refine TX.thenN rfl rfl ?_
    refine TC.seq ?_
    refine TC.cfalse rfl ?_
    refine TC.exit ?_
    refine TX.thenE ?_
    refine TX.thenE ?_
    refine TX.blkH ?_
    refine TX.thenN rfl rfl ?_
    refine TC.seq ?_
    refine TC.region ?_
    refine TL.p (EvP.assign rfl) ?_
    refine TL.nil ?_
    refine TX.thenN rfl rfl ?_
    refine TC.ret ?_
    refine TX.done rfl (Res.one rfl rfl) (fun w hs => Post0.mk hs ?_ (by repeat (first | exact Le.refl _ | exact Le.nil _ | refine Le.hit ?_ | refine Le.hit1 ?_ | refine Le.hit2 ?_ | refine Le.hit3 ?_ | refine Le.hit4 ?_ | refine Le.hit5 ?_ | refine Le.hit6 ?_ | refine Le.hit7 ?_ | refine Le.hit8 ?_ | refine Le.hit9 ?_ | refine Le.hit10 ?_ | refine Le.skip ?_)))
    rw [List.take_of_length_le (by omega)] at hall
    exact ⟨_, rfl, ⟨fun h => by omega, fun h => by rw [hall] at h; cases h⟩⟩

theorem ix_in {w0 w : World} {R : List Chunk} {v : Value} {xs : List Int} (q : Int) (he : Els (fun w => St w0 w R) v 1 (one (Value.int .i64)) 2 xs) (hsz : xs.length < 4611686018427387904) (hst : St w0 w R) : Calls Tryd.prog 71 #[v, .int .i64 q] w (Post0 w0 R fun u => ∃ n : Int, u = .int .i64 n ∧ (0 ≤ n ↔ q ∈ xs)) := by
  obtain ⟨⟨a0, cap, rfl⟩, he2⟩ := id he
  refine calls_of (args := [_, _]) Tryd.func71 rfl Tryd.ntmps71 hst ?_
  refine TC.seq ?_
  refine TC.region ?_
  refine TL.p (EvP.assign rfl) ?_
  refine TL.nil ?_
  refine TX.thenN rfl rfl ?_
  refine TC.seq ?_
  refine TC.seq ?_
  refine TC.region ?_
  refine TL.p (EvP.move rfl) ?_
  refine TL.p (EvP.lenS Tryd.runUnderlying35 rfl) ?_
  refine TL.p (EvP.move rfl) ?_
  refine TL.nil ?_
  refine TX.thenN rfl rfl ?_
  refine TC.block ?_
  refine TC.loop (ι := Nat) (fun i => [(0, .slice a0 xs.length cap), (1, .int .i64 q), (6, .slice a0 xs.length cap), (7, .int .i64 xs.length), (8, .int .i64 i)]) (fun i => R) (fun i => i ≤ xs.length ∧ q ∉ xs.take i) (fun i => xs.length - i) (0) (⟨Nat.zero_le _, by simp⟩) ⟨rfl, rfl, rfl, rfl, rfl, trivial⟩ (by repeat (first | exact Le.refl _ | exact Le.nil _ | refine Le.hit ?_ | refine Le.hit1 ?_ | refine Le.hit2 ?_ | refine Le.hit3 ?_ | refine Le.hit4 ?_ | refine Le.hit5 ?_ | refine Le.hit6 ?_ | refine Le.hit7 ?_ | refine Le.hit8 ?_ | refine Le.hit9 ?_ | refine Le.hit10 ?_ | refine Le.skip ?_)) ?_
  rintro i ⟨hi, hall⟩
  change TC _ _ [(0, .slice a0 xs.length cap), (1, .int .i64 q), (6, .slice a0 xs.length cap), (7, .int .i64 xs.length), (8, .int .i64 i)] (R) _
  refine TC.seq ?_
  refine TC.region ?_
  refine TL.dec (EvP.lt rfl rfl) (fun h9 => ?_) (fun h9 => ?_)
  · refine TL.nil ?_
    refine TX.thenN rfl rfl ?_
    refine TC.seq ?_
    refine TC.ctrue rfl ?_
    refine TC.skip ?_
    refine TX.thenN rfl rfl ?_
    refine TC.seq ?_
    refine TC.block ?_
    refine TC.seq ?_
    refine TC.region ?_
    refine TL.p (EvP.move rfl) ?_
    refine TL.p (EvP.assign rfl) ?_
    refine TL.nil ?_
    refine TX.thenN rfl rfl ?_
    refine TC.seq ?_
    refine TC.region ?_
    refine TL.p (EvP.move rfl) ?_
    refine TL.p (EvP.move rfl) ?_
    refine TL.p (EvP.move rfl) ?_
    have hlt : i < xs.length := by omega
    obtain ⟨x, hx⟩ : ∃ x, xs[i]? = some x := ⟨_, List.getElem?_eq_getElem hlt⟩
    refine TL.elem (he2 i x hx) Tryd.runUnderlying35 Tryd.sizeOf2 rfl rfl (fun bE oE lE _ _ hE hcE => ?_)
    refine TL.r (EvR.load rfl Tryd.isAgg2 hE hcE.1) ?_
    refine TL.dec (EvP.eq rfl rfl) (fun h16 => ?_) (fun h16 => ?_)
    · refine TL.nil ?_
      refine TX.thenN rfl rfl ?_
      refine TC.ctrue rfl ?_
      refine TC.seq ?_
      refine TC.region ?_
      refine TL.p (EvP.move rfl) ?_
      refine TL.p (EvP.assign rfl) ?_
      refine TL.nil ?_
      refine TX.thenN rfl rfl ?_
      refine TC.ret ?_
      refine TX.blkR ?_
      refine TX.thenR ?_
      refine TX.thenR ?_
      refine TX.blkR ?_
      refine TX.thenR ?_
      refine TX.done rfl (Res.one rfl rfl) (fun w hs => Post0.mk hs ?_ (by repeat (first | exact Le.refl _ | exact Le.nil _ | refine Le.hit ?_ | refine Le.hit1 ?_ | refine Le.hit2 ?_ | refine Le.hit3 ?_ | refine Le.hit4 ?_ | refine Le.hit5 ?_ | refine Le.hit6 ?_ | refine Le.hit7 ?_ | refine Le.hit8 ?_ | refine Le.hit9 ?_ | refine Le.hit10 ?_ | refine Le.skip ?_)))
      exact ⟨_, rfl, ⟨fun _ => by rw [h16]; exact List.mem_of_getElem? hx, fun _ => by omega⟩⟩
    · refine TL.nil ?_
      refine TX.thenN rfl rfl ?_
      refine TC.cfalse rfl ?_
      refine TC.skip ?_
      refine TX.blkN ?_
      refine TX.thenN rfl rfl ?_
      refine TC.region ?_
      refine TL.p (EvP.add rfl rfl (by omega)) ?_
      refine TL.p (EvP.move rfl) ?_
      refine TL.nil ?_
      refine TX.back (i + 1) (⟨by omega, not_next hx (fun e => h16 e.symm) hall⟩) (by omega) ⟨rfl, rfl, rfl, rfl, rfl, trivial⟩ (by repeat (first | exact Le.refl _ | exact Le.nil _ | refine Le.hit ?_ | refine Le.hit1 ?_ | refine Le.hit2 ?_ | refine Le.hit3 ?_ | refine Le.hit4 ?_ | refine Le.hit5 ?_ | refine Le.hit6 ?_ | refine Le.hit7 ?_ | refine Le.hit8 ?_ | refine Le.hit9 ?_ | refine Le.hit10 ?_ | refine Le.skip ?_))
  · refine TL.nil ?_
    refine TX.thenN rfl rfl ?_
    refine TC.seq ?_
    refine TC.cfalse rfl ?_
    refine TC.exit ?_
    refine TX.thenE ?_
    refine TX.thenE ?_
    refine TX.blkH ?_
    refine TX.thenN rfl rfl ?_
    refine TC.seq ?_
    refine TC.region ?_
    refine TL.p (EvP.assign rfl) ?_
    refine TL.nil ?_
    refine TX.thenN rfl rfl ?_
    refine TC.ret ?_
    refine TX.done rfl (Res.one rfl rfl) (fun w hs => Post0.mk hs ?_ (by repeat (first | exact Le.refl _ | exact Le.nil _ | refine Le.hit ?_ | refine Le.hit1 ?_ | refine Le.hit2 ?_ | refine Le.hit3 ?_ | refine Le.hit4 ?_ | refine Le.hit5 ?_ | refine Le.hit6 ?_ | refine Le.hit7 ?_ | refine Le.hit8 ?_ | refine Le.hit9 ?_ | refine Le.hit10 ?_ | refine Le.skip ?_)))
    rw [List.take_of_length_le (by omega)] at hall
    exact ⟨_, rfl, ⟨fun h => by omega, fun h => (hall h).elim⟩⟩

theorem ix_dup {w0 w : World} {R : List Chunk} {b : Nat} {p : Int} {a : Option Addr} {n c : Nat} {v : Value} {xs : List Dv} (he : Els (fun w => St w0 w ([(b, .cells [.int .i64 p, .slice a n c].toArray 48 (0, 0))] :: R)) v 2 Dv.enc 48 xs) (hsz : xs.length < 4611686018427387904) (hst : St w0 w ([(b, .cells [.int .i64 p, .slice a n c].toArray 48 (0, 0))] :: R)) : Calls Tryd.prog 70 #[v, .func (.func 56) #[] #[.pointer (some ⟨b, 0, none⟩)]] w (Post0 w0 ([(b, .cells [.int .i64 p, .slice a n c].toArray 48 (0, 0))] :: R) fun u => ∃ n : Int, u = .int .i64 n ∧ (0 ≤ n ↔ p ∈ xs.map (·.p))) := by
  obtain ⟨⟨a0, cap, rfl⟩, he2⟩ := id he
  refine calls_of (args := [_, _]) Tryd.func70 rfl Tryd.ntmps70 hst ?_
  refine TC.seq ?_
  refine TC.region ?_
  refine TL.p (EvP.assign rfl) ?_
  refine TL.nil ?_
  refine TX.thenN rfl rfl ?_
  refine TC.seq ?_
  refine TC.seq ?_
  refine TC.region ?_
  refine TL.p (EvP.move rfl) ?_
  refine TL.p (EvP.lenS Tryd.runUnderlying36 rfl) ?_
  refine TL.p (EvP.move rfl) ?_
  refine TL.nil ?_
  refine TX.thenN rfl rfl ?_
  refine TC.block ?_
  refine TC.loop (ι := Nat) (fun i => [(0, .slice a0 xs.length cap), (1, .func (.func 56) #[] #[.pointer (some ⟨b, 0, none⟩)]), (6, .slice a0 xs.length cap), (7, .int .i64 xs.length), (8, .int .i64 i)]) (fun i => [(b, .cells [.int .i64 p, .slice a n c].toArray 48 (0, 0))] :: R) (fun i => i ≤ xs.length ∧ p ∉ (xs.take i).map (·.p)) (fun i => xs.length - i) (0) (⟨Nat.zero_le _, by simp⟩) ⟨rfl, rfl, rfl, rfl, rfl, trivial⟩ (by repeat (first | exact Le.refl _ | exact Le.nil _ | refine Le.hit ?_ | refine Le.hit1 ?_ | refine Le.hit2 ?_ | refine Le.hit3 ?_ | refine Le.hit4 ?_ | refine Le.hit5 ?_ | refine Le.hit6 ?_ | refine Le.hit7 ?_ | refine Le.hit8 ?_ | refine Le.hit9 ?_ | refine Le.hit10 ?_ | refine Le.skip ?_)) ?_
  rintro i ⟨hi, hall⟩
  change TC _ _ [(0, .slice a0 xs.length cap), (1, .func (.func 56) #[] #[.pointer (some ⟨b, 0, none⟩)]), (6, .slice a0 xs.length cap), (7, .int .i64 xs.length), (8, .int .i64 i)] ([(b, .cells [.int .i64 p, .slice a n c].toArray 48 (0, 0))] :: R) _
  refine TC.seq ?_
  refine TC.region ?_
  refine TL.dec (EvP.lt rfl rfl) (fun h9 => ?_) (fun h9 => ?_)
  · refine TL.nil ?_
    refine TX.thenN rfl rfl ?_
    refine TC.seq ?_
    refine TC.ctrue rfl ?_
    refine TC.skip ?_
    refine TX.thenN rfl rfl ?_
    refine TC.seq ?_
    refine TC.block ?_
    refine TC.seq ?_
    refine TC.region ?_
    refine TL.p (EvP.move rfl) ?_
    refine TL.p (EvP.assign rfl) ?_
    refine TL.nil ?_
    refine TX.thenN rfl rfl ?_
    refine TC.seq ?_
    refine TC.region ?_
    refine TL.p (EvP.move rfl) ?_
    refine TL.p (EvP.move rfl) ?_
    refine TL.p (EvP.move rfl) ?_
    have hlt : i < xs.length := by omega
    obtain ⟨x, hx⟩ : ∃ x, xs[i]? = some x := ⟨_, List.getElem?_eq_getElem hlt⟩
    refine TL.elem (he2 i x hx) Tryd.runUnderlying36 Tryd.sizeOf48 rfl rfl (fun bE oE lE _ _ hE hcE => ?_)
    refine TL.r (EvR.loadN (vs := [_, _]) rfl Tryd.isAgg48 Tryd.sizeOf48 hE hcE) ?_
    refine TL.callA rfl rfl Tryd.call56 (fun w hs => samepid_spec x hs) ?_
    rintro _ rfl
    refine TL.nil ?_
    refine TX.thenN rfl rfl ?_
    refine TC.cond rfl (fun h16 => ?_) (fun h16 => ?_)
    · refine TC.seq ?_
      refine TC.region ?_
      refine TL.p (EvP.move rfl) ?_
      refine TL.p (EvP.assign rfl) ?_
      refine TL.nil ?_
      refine TX.thenN rfl rfl ?_
      refine TC.ret ?_
      refine TX.blkR ?_
      refine TX.thenR ?_
      refine TX.thenR ?_
      refine TX.blkR ?_
      refine TX.thenR ?_
      refine TX.done rfl (Res.one rfl rfl) (fun w hs => Post0.mk hs ?_ (by repeat (first | exact Le.refl _ | exact Le.nil _ | refine Le.hit ?_ | refine Le.hit1 ?_ | refine Le.hit2 ?_ | refine Le.hit3 ?_ | refine Le.hit4 ?_ | refine Le.hit5 ?_ | refine Le.hit6 ?_ | refine Le.hit7 ?_ | refine Le.hit8 ?_ | refine Le.hit9 ?_ | refine Le.hit10 ?_ | refine Le.skip ?_)))
      exact ⟨_, rfl, ⟨fun _ => List.mem_map.2 ⟨x, List.mem_of_getElem? hx, by simpa using h16⟩, fun _ => by omega⟩⟩
    · refine TC.skip ?_
      refine TX.blkN ?_
      refine TX.thenN rfl rfl ?_
      refine TC.region ?_
      refine TL.p (EvP.add rfl rfl (by omega)) ?_
      refine TL.p (EvP.move rfl) ?_
      refine TL.nil ?_
      refine TX.back (i + 1) (⟨by omega, not_nextD hx (by simpa using h16) hall⟩) (by omega) ⟨rfl, rfl, rfl, rfl, rfl, trivial⟩ (by repeat (first | exact Le.refl _ | exact Le.nil _ | refine Le.hit ?_ | refine Le.hit1 ?_ | refine Le.hit2 ?_ | refine Le.hit3 ?_ | refine Le.hit4 ?_ | refine Le.hit5 ?_ | refine Le.hit6 ?_ | refine Le.hit7 ?_ | refine Le.hit8 ?_ | refine Le.hit9 ?_ | refine Le.hit10 ?_ | refine Le.skip ?_))
  · refine TL.nil ?_
    refine TX.thenN rfl rfl ?_
    refine TC.seq ?_
    refine TC.cfalse rfl ?_
    refine TC.exit ?_
    refine TX.thenE ?_
    refine TX.thenE ?_
    refine TX.blkH ?_
    refine TX.thenN rfl rfl ?_
    refine TC.seq ?_
    refine TC.region ?_
    refine TL.p (EvP.assign rfl) ?_
    refine TL.nil ?_
    refine TX.thenN rfl rfl ?_
    refine TC.ret ?_
    refine TX.done rfl (Res.one rfl rfl) (fun w hs => Post0.mk hs ?_ (by repeat (first | exact Le.refl _ | exact Le.nil _ | refine Le.hit ?_ | refine Le.hit1 ?_ | refine Le.hit2 ?_ | refine Le.hit3 ?_ | refine Le.hit4 ?_ | refine Le.hit5 ?_ | refine Le.hit6 ?_ | refine Le.hit7 ?_ | refine Le.hit8 ?_ | refine Le.hit9 ?_ | refine Le.hit10 ?_ | refine Le.skip ?_)))
    rw [List.take_of_length_le (by omega)] at hall
    exact ⟨_, rfl, ⟨fun h => by omega, fun h => (hall h).elim⟩⟩

theorem has_bad {w0 w : World} {R : List Chunk} {v : Value} {xs : List Int} (he : Els (fun w => St w0 w R) v 1 (one (Value.int .i64)) 2 xs) (hsz : xs.length < 4611686018427387904) (hst : St w0 w R) : Calls Tryd.prog 54 #[v, .func (.func 53) #[] #[]] w (Post0 w0 R fun u => u = .bool (!xs.all okPid)) := by
  refine calls_of (args := [_, _]) Tryd.func54 rfl Tryd.ntmps54 hst ?_
  refine TC.seq ?_
  refine TC.region ?_
  refine TL.p (EvP.assign rfl) ?_
  refine TL.nil ?_
  refine TX.thenN rfl rfl ?_
  refine TC.seq ?_
  refine TC.region ?_
  refine TL.p (EvP.move rfl) ?_
  refine TL.p (EvP.move rfl) ?_
  refine TL.callA rfl rfl Tryd.call69 (fun w hs => ix_pid he hsz hs) ?_
  rintro _ ⟨n1, rfl, hn1⟩
  refine TL.p (EvP.ge rfl rfl) ?_
  refine TL.p (EvP.assign rfl) ?_
  refine TL.nil ?_
  refine TX.thenN rfl rfl ?_
  refine TC.ret ?_
  refine TX.done rfl (Res.one rfl rfl) (fun w hs => Post0.mk hs ?_ (by repeat (first | exact Le.refl _ | exact Le.nil _ | refine Le.hit ?_ | refine Le.hit1 ?_ | refine Le.hit2 ?_ | refine Le.hit3 ?_ | refine Le.hit4 ?_ | refine Le.hit5 ?_ | refine Le.hit6 ?_ | refine Le.hit7 ?_ | refine Le.hit8 ?_ | refine Le.hit9 ?_ | refine Le.hit10 ?_ | refine Le.skip ?_)))
  show Value.bool (decide (0 ≤ n1)) = _
  congr 1
  rw [Bool.eq_iff_iff]
  simp only [decide_eq_true_eq, hn1]
  cases xs.all okPid <;> simp

theorem has_in {w0 w : World} {R : List Chunk} {v : Value} {xs : List Int} (q : Int) (he : Els (fun w => St w0 w R) v 1 (one (Value.int .i64)) 2 xs) (hsz : xs.length < 4611686018427387904) (hst : St w0 w R) : Calls Tryd.prog 57 #[v, .int .i64 q] w (Post0 w0 R fun u => u = .bool (decide (q ∈ xs))) := by
  refine calls_of (args := [_, _]) Tryd.func57 rfl Tryd.ntmps57 hst ?_
  refine TC.seq ?_
  refine TC.region ?_
  refine TL.p (EvP.assign rfl) ?_
  refine TL.nil ?_
  refine TX.thenN rfl rfl ?_
  refine TC.seq ?_
  refine TC.region ?_
  refine TL.p (EvP.move rfl) ?_
  refine TL.p (EvP.move rfl) ?_
  refine TL.callA rfl rfl Tryd.call71 (fun w hs => ix_in q he hsz hs) ?_
  rintro _ ⟨n1, rfl, hn1⟩
  refine TL.p (EvP.ge rfl rfl) ?_
  refine TL.p (EvP.assign rfl) ?_
  refine TL.nil ?_
  refine TX.thenN rfl rfl ?_
  refine TC.ret ?_
  refine TX.done rfl (Res.one rfl rfl) (fun w hs => Post0.mk hs ?_ (by repeat (first | exact Le.refl _ | exact Le.nil _ | refine Le.hit ?_ | refine Le.hit1 ?_ | refine Le.hit2 ?_ | refine Le.hit3 ?_ | refine Le.hit4 ?_ | refine Le.hit5 ?_ | refine Le.hit6 ?_ | refine Le.hit7 ?_ | refine Le.hit8 ?_ | refine Le.hit9 ?_ | refine Le.hit10 ?_ | refine Le.skip ?_)))
  show Value.bool (decide (0 ≤ n1)) = _
  congr 1
  rw [Bool.eq_iff_iff]
  simp only [decide_eq_true_eq, hn1]
  try simp

theorem has_dup {w0 w : World} {R : List Chunk} {b : Nat} {p : Int} {a : Option Addr} {n c : Nat} {v : Value} {xs : List Dv} (he : Els (fun w => St w0 w ([(b, .cells [.int .i64 p, .slice a n c].toArray 48 (0, 0))] :: R)) v 2 Dv.enc 48 xs) (hsz : xs.length < 4611686018427387904) (hst : St w0 w ([(b, .cells [.int .i64 p, .slice a n c].toArray 48 (0, 0))] :: R)) : Calls Tryd.prog 55 #[v, .func (.func 56) #[] #[.pointer (some ⟨b, 0, none⟩)]] w (Post0 w0 ([(b, .cells [.int .i64 p, .slice a n c].toArray 48 (0, 0))] :: R) fun u => u = .bool (decide (p ∈ xs.map (·.p)))) := by
  refine calls_of (args := [_, _]) Tryd.func55 rfl Tryd.ntmps55 hst ?_
  refine TC.seq ?_
  refine TC.region ?_
  refine TL.p (EvP.assign rfl) ?_
  refine TL.nil ?_
  refine TX.thenN rfl rfl ?_
  refine TC.seq ?_
  refine TC.region ?_
  refine TL.p (EvP.move rfl) ?_
  refine TL.p (EvP.move rfl) ?_
  refine TL.callA rfl rfl Tryd.call70 (fun w hs => ix_dup he hsz hs) ?_
  rintro _ ⟨n1, rfl, hn1⟩
  refine TL.p (EvP.ge rfl rfl) ?_
  refine TL.p (EvP.assign rfl) ?_
  refine TL.nil ?_
  refine TX.thenN rfl rfl ?_
  refine TC.ret ?_
  refine TX.done rfl (Res.one rfl rfl) (fun w hs => Post0.mk hs ?_ (by repeat (first | exact Le.refl _ | exact Le.nil _ | refine Le.hit ?_ | refine Le.hit1 ?_ | refine Le.hit2 ?_ | refine Le.hit3 ?_ | refine Le.hit4 ?_ | refine Le.hit5 ?_ | refine Le.hit6 ?_ | refine Le.hit7 ?_ | refine Le.hit8 ?_ | refine Le.hit9 ?_ | refine Le.hit10 ?_ | refine Le.skip ?_)))
  show Value.bool (decide (0 ≤ n1)) = _
  congr 1
  rw [Bool.eq_iff_iff]
  simp only [decide_eq_true_eq, hn1]
  try simp

theorem wrong_spec {w0 w : World} {R : List Chunk} {vl vt vf : Value} {live traps : List Int} {dvs : List Dv} {ds : List Dth} (hT : Tabs w0) (hl : Els (fun w => St w0 w R) vl 1 (one (Value.int .i64)) 2 live) (ht : Els (fun w => St w0 w R) vt 1 (one (Value.int .i64)) 2 traps) (hF : Fst (fun w => St w0 w R) vf dvs ds) (hzl : live.length ≤ 17592186044416) (hzt : traps.length ≤ 17592186044416) (hzd : dvs.length ≤ 17592186044416) (hdz : ∀ d ∈ ds, d.2.length ≤ 4398046511000) (hst : St w0 w R) : Calls Tryd.prog 38 #[vl, vt, vf] w (Post0 w0 R fun u => u = .int .i64 (wrongM live traps ds)) := by
  obtain ⟨a2, cap2, rfl, hc2, hsp2, he2, hrel⟩ := hF
  have hlen := hrel.1
  refine calls_of (args := [_, _, _]) Tryd.func38 rfl Tryd.ntmps38 hst ?_
  refine TC.seq ?_
  refine TC.region ?_
  refine TL.p (EvP.assign rfl) ?_
  refine TL.nil ?_
  refine TX.thenN rfl rfl ?_
  refine TC.seq ?_
  refine TC.region ?_
  refine TL.p (EvP.assign rfl) ?_
  refine TL.nil ?_
  refine TX.thenN rfl rfl ?_
  refine TC.seq ?_
  refine TC.seq ?_
  refine TC.region ?_
  refine TL.p (EvP.move rfl) ?_
  refine TL.p (EvP.move rfl) ?_
  refine TL.callA rfl rfl Tryd.call54 (fun w hs => has_bad hl (by omega) hs) ?_
  rintro _ rfl
  refine TL.p (EvP.move rfl) ?_
  refine TL.bsplit 21 rfl (fun h21 => ?_) (fun h21 => ?_)
  · refine TL.gN rfl rfl rfl ?_
    refine TL.gN rfl rfl rfl ?_
    refine TL.gN rfl rfl rfl ?_
    refine TL.p (EvP.pickT rfl rfl) ?_
    refine TL.nil ?_
    refine TX.thenN rfl rfl ?_
    refine TC.ctrue rfl ?_
    refine TC.seq ?_
    refine TC.region ?_
    refine TL.p (EvP.assign rfl) ?_
    refine TL.nil ?_
    refine TX.thenN rfl rfl ?_
    refine TC.ret ?_
    refine TX.thenR ?_
    refine TX.done rfl (Res.one rfl rfl) (fun w hs => Post0.mk hs ?_ (by repeat (first | exact Le.refl _ | exact Le.nil _ | refine Le.hit ?_ | refine Le.hit1 ?_ | refine Le.hit2 ?_ | refine Le.hit3 ?_ | refine Le.hit4 ?_ | refine Le.hit5 ?_ | refine Le.hit6 ?_ | refine Le.hit7 ?_ | refine Le.hit8 ?_ | refine Le.hit9 ?_ | refine Le.hit10 ?_ | refine Le.skip ?_)))
    rw [wrong_pid (by first | (rw [Bool.not_eq_true'] at h21; rw [h21]; rfl) | (rw [Bool.not_eq_true'] at h25; rw [h25]; simp))]
  · refine TL.gY rfl rfl rfl ?_
    refine TL.p (EvP.move rfl) ?_
    refine TL.gY rfl rfl rfl ?_
    refine TL.p (EvP.move rfl) ?_
    refine TL.gY rfl rfl rfl ?_
    refine TL.callA rfl rfl Tryd.call54 (fun w hs => has_bad ht (by omega) hs) ?_
    rintro _ rfl
    refine TL.p (EvP.pickF rfl rfl) ?_
    refine TL.nil ?_
    refine TX.thenN rfl rfl ?_
    refine TC.cond rfl (fun h25 => ?_) (fun h25 => ?_)
    · refine TC.seq ?_
      refine TC.region ?_
      refine TL.p (EvP.assign rfl) ?_
      refine TL.nil ?_
      refine TX.thenN rfl rfl ?_
      refine TC.ret ?_
      refine TX.thenR ?_
      refine TX.done rfl (Res.one rfl rfl) (fun w hs => Post0.mk hs ?_ (by repeat (first | exact Le.refl _ | exact Le.nil _ | refine Le.hit ?_ | refine Le.hit1 ?_ | refine Le.hit2 ?_ | refine Le.hit3 ?_ | refine Le.hit4 ?_ | refine Le.hit5 ?_ | refine Le.hit6 ?_ | refine Le.hit7 ?_ | refine Le.hit8 ?_ | refine Le.hit9 ?_ | refine Le.hit10 ?_ | refine Le.skip ?_)))
      rw [wrong_pid (by first | (rw [Bool.not_eq_true'] at h21; rw [h21]; rfl) | (rw [Bool.not_eq_true'] at h25; rw [h25]; simp))]
    · refine TC.skip ?_
      refine TX.thenN rfl rfl ?_
      refine TC.seq ?_
      refine TC.seq ?_
      refine TC.region ?_
      have hl0 : live.all okPid = true := by simp_all
      have ht0 : traps.all okPid = true := by simp_all
      refine TL.p (EvP.move rfl) ?_
      refine TL.p (EvP.lenS Tryd.runUnderlying36 rfl) ?_
      refine TL.p (EvP.move rfl) ?_
      refine TL.nil ?_
      refine TX.thenN rfl rfl ?_
      refine TC.block ?_
      refine TC.loop (ι := Nat) (fun i => [(0, vl), (2, .slice a2 dvs.length cap2), (7, .func (.func 53) #[] #[]), (26, .slice a2 dvs.length cap2), (27, .int .i64 dvs.length), (28, .int .i64 i)]) (fun i => R) (fun i => i ≤ dvs.length ∧ ((ds.take i).all fun d => okPid d.1) = true) (fun i => dvs.length - i) (0) (⟨Nat.zero_le _, by simp⟩) ⟨rfl, rfl, rfl, rfl, rfl, rfl, trivial⟩ (by repeat (first | exact Le.refl _ | exact Le.nil _ | refine Le.hit ?_ | refine Le.hit1 ?_ | refine Le.hit2 ?_ | refine Le.hit3 ?_ | refine Le.hit4 ?_ | refine Le.hit5 ?_ | refine Le.hit6 ?_ | refine Le.hit7 ?_ | refine Le.hit8 ?_ | refine Le.hit9 ?_ | refine Le.hit10 ?_ | refine Le.skip ?_)) ?_
      rintro i ⟨hi, hall⟩
      change TC _ _ [(0, vl), (2, .slice a2 dvs.length cap2), (7, .func (.func 53) #[] #[]), (26, .slice a2 dvs.length cap2), (27, .int .i64 dvs.length), (28, .int .i64 i)] (R) _
      refine TC.seq ?_
      refine TC.region ?_
      refine TL.dec (EvP.lt rfl rfl) (fun h29 => ?_) (fun h29 => ?_)
      · refine TL.nil ?_
        refine TX.thenN rfl rfl ?_
        refine TC.seq ?_
        refine TC.ctrue rfl ?_
        refine TC.skip ?_
        refine TX.thenN rfl rfl ?_
        refine TC.seq ?_
        refine TC.block ?_
        refine TC.seq ?_
        refine TC.region ?_
        have hlt : i < dvs.length := by omega
        obtain ⟨x, hx⟩ : ∃ x, dvs[i]? = some x := ⟨_, List.getElem?_eq_getElem hlt⟩
        obtain ⟨d, hd, hp, hr⟩ := hrel.at hx
        have hdl := hdz d (List.mem_of_getElem? hd)
        refine TL.elem ((he2.sub (by repeat (first | exact Le.refl _ | exact Le.nil _ | refine Le.hit ?_ | refine Le.hit1 ?_ | refine Le.hit2 ?_ | refine Le.hit3 ?_ | refine Le.hit4 ?_ | refine Le.hit5 ?_ | refine Le.hit6 ?_ | refine Le.hit7 ?_ | refine Le.hit8 ?_ | refine Le.hit9 ?_ | refine Le.hit10 ?_ | refine Le.skip ?_))).elAt hx) Tryd.runUnderlying36 Tryd.sizeOf48 rfl rfl (fun bE oE lE _ _ hE hcE => ?_)
        refine TL.r (EvR.loadN (vs := [_, _]) rfl Tryd.isAgg48 Tryd.sizeOf48 hE hcE) ?_
        refine TL.alloc Tryd.zeroValue48 rfl (fun b9 => ?_)
        refine TL.u (EvU.store rfl rfl Tryd.sizeOf48 rfl rfl rfl rfl (by repeat (first | exact Has.hd | refine Has.tlb ?_ | refine Has.tlc ?_)) (by repeat (first | exact SetLs.nil | exact SetL.here | apply SetLs.cons | apply SetL.there)) (by repeat (first | exact Upd.hd | apply Upd.tlb | apply Upd.tlc))) ?_
        refine TL.nil ?_
        refine TX.thenN rfl rfl ?_
        refine TC.seq ?_
        refine TC.region ?_
        refine TL.p (EvP.move rfl) ?_
        refine TL.p (EvP.fa (e := 0) rfl Tryd.runUnderlying48 rfl Tryd.sizeOf2 rfl) ?_
        refine TL.r (EvR.load rfl Tryd.isAgg2 (AtB.own (by repeat (first | exact Has.hd | refine Has.tlb ?_ | refine Has.tlc ?_))) (by rfl)) ?_
        refine TL.callA rfl rfl Tryd.call53 (fun w hs => notpid_spec _ hs) ?_
        rintro _ rfl
        refine TL.nil ?_
        refine TX.thenN rfl rfl ?_
        refine TC.cond rfl (fun h35 => ?_) (fun h35 => ?_)
        · refine TC.seq ?_
          refine TC.region ?_
          refine TL.p (EvP.assign rfl) ?_
          refine TL.nil ?_
          refine TX.thenN rfl rfl ?_
          refine TC.ret ?_
          refine TX.blkR ?_
          refine TX.thenR ?_
          refine TX.thenR ?_
          refine TX.blkR ?_
          refine TX.thenR ?_
          refine TX.done rfl (Res.one rfl rfl) (fun w hs => Post0.mk hs ?_ (by repeat (first | exact Le.refl _ | exact Le.nil _ | refine Le.hit ?_ | refine Le.hit1 ?_ | refine Le.hit2 ?_ | refine Le.hit3 ?_ | refine Le.hit4 ?_ | refine Le.hit5 ?_ | refine Le.hit6 ?_ | refine Le.hit7 ?_ | refine Le.hit8 ?_ | refine Le.hit9 ?_ | refine Le.hit10 ?_ | refine Le.skip ?_)))
          rw [wrong_pid (by rw [allT_no (f := fun d : Dth => okPid d.1) hd (by rw [← hp]; simpa using h35)]; simp)]
        · refine TC.skip ?_
          refine TX.blkN ?_
          refine TX.thenN rfl rfl ?_
          refine TC.region ?_
          refine TL.p (EvP.add rfl rfl (by omega)) ?_
          refine TL.p (EvP.move rfl) ?_
          refine TL.nil ?_
          refine TX.back (i + 1) (⟨by omega, allT_next (f := fun d : Dth => okPid d.1) hd (by rw [← hp]; simpa using h35) hall⟩) (by omega) ⟨rfl, rfl, rfl, rfl, rfl, rfl, trivial⟩ (by repeat (first | exact Le.refl _ | exact Le.nil _ | refine Le.hit ?_ | refine Le.hit1 ?_ | refine Le.hit2 ?_ | refine Le.hit3 ?_ | refine Le.hit4 ?_ | refine Le.hit5 ?_ | refine Le.hit6 ?_ | refine Le.hit7 ?_ | refine Le.hit8 ?_ | refine Le.hit9 ?_ | refine Le.hit10 ?_ | refine Le.skip ?_))
      · refine TL.nil ?_
        refine TX.thenN rfl rfl ?_
        refine TC.seq ?_
        refine TC.cfalse rfl ?_
        refine TC.exit ?_
        refine TX.thenE ?_
        refine TX.thenE ?_
        refine TX.blkH ?_
        refine TX.thenN rfl rfl ?_
        refine TC.seq ?_
        refine TC.seq ?_
        refine TC.region ?_
        have hpids : (live.all okPid && traps.all okPid && ds.all fun d => okPid d.1) = true := by rw [List.take_of_length_le (by omega)] at hall; rw [hl0, ht0, hall]; rfl
        refine TL.p (EvP.move rfl) ?_
        refine TL.p (EvP.lenS Tryd.runUnderlying36 rfl) ?_
        refine TL.p (EvP.move rfl) ?_
        refine TL.nil ?_
        refine TX.thenN rfl rfl ?_
        refine TC.block ?_
        refine TC.loop (ι := Nat) (fun i => [(0, vl), (2, .slice a2 dvs.length cap2), (7, .func (.func 53) #[] #[]), (37, .slice a2 dvs.length cap2), (38, .int .i64 dvs.length), (39, .int .i64 i)]) (fun i => R) (fun i => i ≤ dvs.length ∧ firstR (ds.drop i) = firstR ds) (fun i => dvs.length - i) (0) (⟨Nat.zero_le _, rfl⟩) ⟨rfl, rfl, rfl, rfl, rfl, rfl, trivial⟩ (by repeat (first | exact Le.refl _ | exact Le.nil _ | refine Le.hit ?_ | refine Le.hit1 ?_ | refine Le.hit2 ?_ | refine Le.hit3 ?_ | refine Le.hit4 ?_ | refine Le.hit5 ?_ | refine Le.hit6 ?_ | refine Le.hit7 ?_ | refine Le.hit8 ?_ | refine Le.hit9 ?_ | refine Le.hit10 ?_ | refine Le.skip ?_)) ?_
        rintro i ⟨hi, hbad0⟩
        change TC _ _ [(0, vl), (2, .slice a2 dvs.length cap2), (7, .func (.func 53) #[] #[]), (37, .slice a2 dvs.length cap2), (38, .int .i64 dvs.length), (39, .int .i64 i)] (R) _
        refine TC.seq ?_
        refine TC.region ?_
        refine TL.dec (EvP.lt rfl rfl) (fun h40 => ?_) (fun h40 => ?_)
        · refine TL.nil ?_
          refine TX.thenN rfl rfl ?_
          refine TC.seq ?_
          refine TC.ctrue rfl ?_
          refine TC.skip ?_
          refine TX.thenN rfl rfl ?_
          refine TC.seq ?_
          refine TC.block ?_
          refine TC.seq ?_
          refine TC.region ?_
          have hlt : i < dvs.length := by omega
          obtain ⟨x, hx⟩ : ∃ x, dvs[i]? = some x := ⟨_, List.getElem?_eq_getElem hlt⟩
          obtain ⟨d, hd, hp, hr⟩ := hrel.at hx
          have hdl := hdz d (List.mem_of_getElem? hd)
          refine TL.elem ((he2.sub (by repeat (first | exact Le.refl _ | exact Le.nil _ | refine Le.hit ?_ | refine Le.hit1 ?_ | refine Le.hit2 ?_ | refine Le.hit3 ?_ | refine Le.hit4 ?_ | refine Le.hit5 ?_ | refine Le.hit6 ?_ | refine Le.hit7 ?_ | refine Le.hit8 ?_ | refine Le.hit9 ?_ | refine Le.hit10 ?_ | refine Le.skip ?_))).elAt hx) Tryd.runUnderlying36 Tryd.sizeOf48 rfl rfl (fun bE oE lE _ _ hE hcE => ?_)
          refine TL.r (EvR.loadN (vs := [_, _]) rfl Tryd.isAgg48 Tryd.sizeOf48 hE hcE) ?_
          refine TL.alloc Tryd.zeroValue48 rfl (fun b11 => ?_)
          refine TL.u (EvU.store rfl rfl Tryd.sizeOf48 rfl rfl rfl rfl (by repeat (first | exact Has.hd | refine Has.tlb ?_ | refine Has.tlc ?_)) (by repeat (first | exact SetLs.nil | exact SetL.here | apply SetLs.cons | apply SetL.there)) (by repeat (first | exact Upd.hd | apply Upd.tlb | apply Upd.tlc))) ?_
          refine TL.nil ?_
          refine TX.thenN rfl rfl ?_
          refine TC.seq ?_
          refine TC.region ?_
          refine TL.p (EvP.fa (e := 1) rfl Tryd.runUnderlying48 rfl Tryd.sizeOf22 rfl) ?_
          refine TL.r (EvR.load rfl Tryd.isAgg22 (AtB.own (by repeat (first | exact Has.hd | refine Has.tlb ?_ | refine Has.tlc ?_))) (by rfl)) ?_
          refine TL.callA rfl rfl Tryd.call27 (fun w hs => wright_spec hT (hr.sub (by repeat (first | exact Le.refl _ | exact Le.nil _ | refine Le.hit ?_ | refine Le.hit1 ?_ | refine Le.hit2 ?_ | refine Le.hit3 ?_ | refine Le.hit4 ?_ | refine Le.hit5 ?_ | refine Le.hit6 ?_ | refine Le.hit7 ?_ | refine Le.hit8 ?_ | refine Le.hit9 ?_ | refine Le.hit10 ?_ | refine Le.skip ?_))) (by omega) hs) ?_
          rintro _ rfl
          refine TL.p (EvP.move rfl) ?_
          refine TL.p (EvP.extract rfl rfl) ?_
          refine TL.p (EvP.extract rfl rfl) ?_
          refine TL.p (EvP.assign rfl) ?_
          refine TL.p (EvP.assign rfl) ?_
          refine TL.nil ?_
          refine TX.thenN rfl rfl ?_
          refine TC.seq ?_
          refine TC.region ?_
          refine TL.p (EvP.move rfl) ?_
          refine TL.dec (EvP.ne rfl rfl) (fun h50 => ?_) (fun h50 => ?_)
          · refine TL.nil ?_
            refine TX.thenN rfl rfl ?_
            refine TC.ctrue rfl ?_
            refine TC.seq ?_
            refine TC.region ?_
            refine TL.p (EvP.move rfl) ?_
            refine TL.p (EvP.assign rfl) ?_
            refine TL.nil ?_
            refine TX.thenN rfl rfl ?_
            refine TC.ret ?_
            refine TX.blkR ?_
            refine TX.thenR ?_
            refine TX.thenR ?_
            refine TX.blkR ?_
            refine TX.thenR ?_
            refine TX.done rfl (Res.one rfl rfl) (fun w hs => Post0.mk hs ?_ (by repeat (first | exact Le.refl _ | exact Le.nil _ | refine Le.hit ?_ | refine Le.hit1 ?_ | refine Le.hit2 ?_ | refine Le.hit3 ?_ | refine Le.hit4 ?_ | refine Le.hit5 ?_ | refine Le.hit6 ?_ | refine Le.hit7 ?_ | refine Le.hit8 ?_ | refine Le.hit9 ?_ | refine Le.hit10 ?_ | refine Le.skip ?_)))
            rw [wrong_bad hpids (by rw [← hbad0, firstR_at hd (by omega)]; omega), ← hbad0, firstR_at hd (by omega)]
            rfl
          · refine TL.nil ?_
            refine TX.thenN rfl rfl ?_
            refine TC.cfalse rfl ?_
            refine TC.skip ?_
            refine TX.blkN ?_
            refine TX.thenN rfl rfl ?_
            refine TC.region ?_
            refine TL.p (EvP.add rfl rfl (by omega)) ?_
            refine TL.p (EvP.move rfl) ?_
            refine TL.nil ?_
            refine TX.back (i + 1) (⟨by omega, by rw [← firstR_next hd (by omega)]; exact hbad0⟩) (by omega) ⟨rfl, rfl, rfl, rfl, rfl, rfl, trivial⟩ (by repeat (first | exact Le.refl _ | exact Le.nil _ | refine Le.hit ?_ | refine Le.hit1 ?_ | refine Le.hit2 ?_ | refine Le.hit3 ?_ | refine Le.hit4 ?_ | refine Le.hit5 ?_ | refine Le.hit6 ?_ | refine Le.hit7 ?_ | refine Le.hit8 ?_ | refine Le.hit9 ?_ | refine Le.hit10 ?_ | refine Le.skip ?_))
        · refine TL.nil ?_
          refine TX.thenN rfl rfl ?_
          refine TC.seq ?_
          refine TC.cfalse rfl ?_
          refine TC.exit ?_
          refine TX.thenE ?_
          refine TX.thenE ?_
          refine TX.blkH ?_
          refine TX.thenN rfl rfl ?_
          refine TC.seq ?_
          refine TC.seq ?_
          refine TC.region ?_
          have hbad : firstR ds = 0 := by rw [← hbad0, List.drop_eq_nil_of_le (by omega)]; rfl
          refine TL.p (EvP.move rfl) ?_
          refine TL.p (EvP.lenS Tryd.runUnderlying36 rfl) ?_
          refine TL.p (EvP.move rfl) ?_
          refine TL.nil ?_
          refine TX.thenN rfl rfl ?_
          refine TC.block ?_
          refine TC.loop (ι := Nat) (fun i => [(0, vl), (2, .slice a2 dvs.length cap2), (7, .func (.func 53) #[] #[]), (53, .slice a2 dvs.length cap2), (54, .int .i64 dvs.length), (55, .int .i64 i)]) (fun i => R) (fun i => i ≤ dvs.length ∧ ((ds.map (·.1)).take i).Nodup) (fun i => dvs.length - i) (0) (⟨Nat.zero_le _, by simp⟩) ⟨rfl, rfl, rfl, rfl, rfl, rfl, trivial⟩ (by repeat (first | exact Le.refl _ | exact Le.nil _ | refine Le.hit ?_ | refine Le.hit1 ?_ | refine Le.hit2 ?_ | refine Le.hit3 ?_ | refine Le.hit4 ?_ | refine Le.hit5 ?_ | refine Le.hit6 ?_ | refine Le.hit7 ?_ | refine Le.hit8 ?_ | refine Le.hit9 ?_ | refine Le.hit10 ?_ | refine Le.skip ?_)) ?_
          rintro i ⟨hi, hdup0⟩
          change TC _ _ [(0, vl), (2, .slice a2 dvs.length cap2), (7, .func (.func 53) #[] #[]), (53, .slice a2 dvs.length cap2), (54, .int .i64 dvs.length), (55, .int .i64 i)] (R) _
          refine TC.seq ?_
          refine TC.region ?_
          refine TL.dec (EvP.lt rfl rfl) (fun h56 => ?_) (fun h56 => ?_)
          · refine TL.nil ?_
            refine TX.thenN rfl rfl ?_
            refine TC.seq ?_
            refine TC.ctrue rfl ?_
            refine TC.skip ?_
            refine TX.thenN rfl rfl ?_
            refine TC.seq ?_
            refine TC.block ?_
            refine TC.seq ?_
            refine TC.region ?_
            refine TL.p (EvP.move rfl) ?_
            have hlt : i < dvs.length := by omega
            obtain ⟨x, hx⟩ : ∃ x, dvs[i]? = some x := ⟨_, List.getElem?_eq_getElem hlt⟩
            obtain ⟨d, hd, hp, hr⟩ := hrel.at hx
            have hdl := hdz d (List.mem_of_getElem? hd)
            refine TL.elem ((he2.sub (by repeat (first | exact Le.refl _ | exact Le.nil _ | refine Le.hit ?_ | refine Le.hit1 ?_ | refine Le.hit2 ?_ | refine Le.hit3 ?_ | refine Le.hit4 ?_ | refine Le.hit5 ?_ | refine Le.hit6 ?_ | refine Le.hit7 ?_ | refine Le.hit8 ?_ | refine Le.hit9 ?_ | refine Le.hit10 ?_ | refine Le.skip ?_))).elAt hx) Tryd.runUnderlying36 Tryd.sizeOf48 rfl rfl (fun bE oE lE _ _ hE hcE => ?_)
            refine TL.r (EvR.loadN (vs := [_, _]) rfl Tryd.isAgg48 Tryd.sizeOf48 hE hcE) ?_
            refine TL.alloc Tryd.zeroValue48 rfl (fun b15 => ?_)
            refine TL.p (EvP.assign rfl) ?_
            refine TL.u (EvU.store rfl rfl Tryd.sizeOf48 rfl rfl rfl rfl (by repeat (first | exact Has.hd | refine Has.tlb ?_ | refine Has.tlc ?_)) (by repeat (first | exact SetLs.nil | exact SetL.here | apply SetLs.cons | apply SetL.there)) (by repeat (first | exact Upd.hd | apply Upd.tlb | apply Upd.tlc))) ?_
            refine TL.nil ?_
            refine TX.thenN rfl rfl ?_
            refine TC.seq ?_
            refine TC.region ?_
            refine TL.p (EvP.move rfl) ?_
            refine TL.p (EvP.move rfl) ?_
            refine TL.p (EvP.sliceH Tryd.runUnderlying36 Tryd.sizeOf48 rfl rfl ⟨by omega, by omega⟩ (hsp2 (by omega))) ?_
            refine TL.p (EvP.makeFunc rfl rfl) ?_
            refine TL.callA rfl rfl Tryd.call55 (fun w hs => has_dup ((he2.takeS (j := i) (by omega)).sub (Le.skip (Le.refl _))) (by rw [List.length_take]; omega) hs) ?_
            rintro _ rfl
            refine TL.nil ?_
            refine TX.thenN rfl rfl ?_
            refine TC.cond rfl (fun h64 => ?_) (fun h64 => ?_)
            · refine TC.seq ?_
              refine TC.region ?_
              refine TL.p (EvP.assign rfl) ?_
              refine TL.nil ?_
              refine TX.thenN rfl rfl ?_
              refine TC.ret ?_
              refine TX.blkR ?_
              refine TX.thenR ?_
              refine TX.thenR ?_
              refine TX.blkR ?_
              refine TX.thenR ?_
              refine TX.done rfl (Res.one rfl rfl) (fun w hs => Post0.mk hs ?_ (by repeat (first | exact Le.refl _ | exact Le.nil _ | refine Le.hit ?_ | refine Le.hit1 ?_ | refine Le.hit2 ?_ | refine Le.hit3 ?_ | refine Le.hit4 ?_ | refine Le.hit5 ?_ | refine Le.hit6 ?_ | refine Le.hit7 ?_ | refine Le.hit8 ?_ | refine Le.hit9 ?_ | refine Le.hit10 ?_ | refine Le.skip ?_)))
              rw [wrong_twice hpids hbad (dup_at (i := i) (p := d.1) (by simp [hd]) (by rw [← hp, ← pids_take hrel]; simpa using h64))]
            · refine TC.skip ?_
              refine TX.blkN ?_
              refine TX.thenN rfl rfl ?_
              refine TC.region ?_
              refine TL.p (EvP.add rfl rfl (by omega)) ?_
              refine TL.p (EvP.move rfl) ?_
              refine TL.nil ?_
              refine TX.back (i + 1) (⟨by omega, nodup_next (p := d.1) (by simp [hd]) (by rw [← hp, ← pids_take hrel]; simpa using h64) hdup0⟩) (by omega) ⟨rfl, rfl, rfl, rfl, rfl, rfl, trivial⟩ (by repeat (first | exact Le.refl _ | exact Le.nil _ | refine Le.hit ?_ | refine Le.hit1 ?_ | refine Le.hit2 ?_ | refine Le.hit3 ?_ | refine Le.hit4 ?_ | refine Le.hit5 ?_ | refine Le.hit6 ?_ | refine Le.hit7 ?_ | refine Le.hit8 ?_ | refine Le.hit9 ?_ | refine Le.hit10 ?_ | refine Le.skip ?_))
          · refine TL.nil ?_
            refine TX.thenN rfl rfl ?_
            refine TC.seq ?_
            refine TC.cfalse rfl ?_
            refine TC.exit ?_
            refine TX.thenE ?_
            refine TX.thenE ?_
            refine TX.blkH ?_
            refine TX.thenN rfl rfl ?_
            refine TC.seq ?_
            refine TC.seq ?_
            refine TC.region ?_
            have hdup : (ds.map (·.1)).Nodup := by rw [List.take_of_length_le (by simp; omega)] at hdup0; exact hdup0
            refine TL.p (EvP.move rfl) ?_
            refine TL.p (EvP.lenS Tryd.runUnderlying36 rfl) ?_
            refine TL.p (EvP.move rfl) ?_
            refine TL.nil ?_
            refine TX.thenN rfl rfl ?_
            refine TC.block ?_
            refine TC.loop (ι := Nat) (fun i => [(0, vl), (2, .slice a2 dvs.length cap2), (7, .func (.func 53) #[] #[]), (66, .slice a2 dvs.length cap2), (67, .int .i64 dvs.length), (68, .int .i64 i)]) (fun i => R) (fun i => i ≤ dvs.length ∧ ((ds.take i).all fun d => decide (d.1 ∈ live)) = true) (fun i => dvs.length - i) (0) (⟨Nat.zero_le _, by simp⟩) ⟨rfl, rfl, rfl, rfl, rfl, rfl, trivial⟩ (by repeat (first | exact Le.refl _ | exact Le.nil _ | refine Le.hit ?_ | refine Le.hit1 ?_ | refine Le.hit2 ?_ | refine Le.hit3 ?_ | refine Le.hit4 ?_ | refine Le.hit5 ?_ | refine Le.hit6 ?_ | refine Le.hit7 ?_ | refine Le.hit8 ?_ | refine Le.hit9 ?_ | refine Le.hit10 ?_ | refine Le.skip ?_)) ?_
            rintro i ⟨hi, hliv0⟩
            change TC _ _ [(0, vl), (2, .slice a2 dvs.length cap2), (7, .func (.func 53) #[] #[]), (66, .slice a2 dvs.length cap2), (67, .int .i64 dvs.length), (68, .int .i64 i)] (R) _
            refine TC.seq ?_
            refine TC.region ?_
            refine TL.dec (EvP.lt rfl rfl) (fun h69 => ?_) (fun h69 => ?_)
            · refine TL.nil ?_
              refine TX.thenN rfl rfl ?_
              refine TC.seq ?_
              refine TC.ctrue rfl ?_
              refine TC.skip ?_
              refine TX.thenN rfl rfl ?_
              refine TC.seq ?_
              refine TC.block ?_
              refine TC.seq ?_
              refine TC.region ?_
              have hlt : i < dvs.length := by omega
              obtain ⟨x, hx⟩ : ∃ x, dvs[i]? = some x := ⟨_, List.getElem?_eq_getElem hlt⟩
              obtain ⟨d, hd, hp, hr⟩ := hrel.at hx
              have hdl := hdz d (List.mem_of_getElem? hd)
              refine TL.elem ((he2.sub (by repeat (first | exact Le.refl _ | exact Le.nil _ | refine Le.hit ?_ | refine Le.hit1 ?_ | refine Le.hit2 ?_ | refine Le.hit3 ?_ | refine Le.hit4 ?_ | refine Le.hit5 ?_ | refine Le.hit6 ?_ | refine Le.hit7 ?_ | refine Le.hit8 ?_ | refine Le.hit9 ?_ | refine Le.hit10 ?_ | refine Le.skip ?_))).elAt hx) Tryd.runUnderlying36 Tryd.sizeOf48 rfl rfl (fun bE oE lE _ _ hE hcE => ?_)
              refine TL.r (EvR.loadN (vs := [_, _]) rfl Tryd.isAgg48 Tryd.sizeOf48 hE hcE) ?_
              refine TL.alloc Tryd.zeroValue48 rfl (fun b17 => ?_)
              refine TL.u (EvU.store rfl rfl Tryd.sizeOf48 rfl rfl rfl rfl (by repeat (first | exact Has.hd | refine Has.tlb ?_ | refine Has.tlc ?_)) (by repeat (first | exact SetLs.nil | exact SetL.here | apply SetLs.cons | apply SetL.there)) (by repeat (first | exact Upd.hd | apply Upd.tlb | apply Upd.tlc))) ?_
              refine TL.nil ?_
              refine TX.thenN rfl rfl ?_
              refine TC.seq ?_
              refine TC.region ?_
              refine TL.p (EvP.move rfl) ?_
              refine TL.p (EvP.fa (e := 0) rfl Tryd.runUnderlying48 rfl Tryd.sizeOf2 rfl) ?_
              refine TL.r (EvR.load rfl Tryd.isAgg2 (AtB.own (by repeat (first | exact Has.hd | refine Has.tlb ?_ | refine Has.tlc ?_))) (by rfl)) ?_
              refine TL.callA rfl rfl Tryd.call57 (fun w hs => has_in x.p (hl.sub (by repeat (first | exact Le.refl _ | exact Le.nil _ | refine Le.hit ?_ | refine Le.hit1 ?_ | refine Le.hit2 ?_ | refine Le.hit3 ?_ | refine Le.hit4 ?_ | refine Le.hit5 ?_ | refine Le.hit6 ?_ | refine Le.hit7 ?_ | refine Le.hit8 ?_ | refine Le.hit9 ?_ | refine Le.hit10 ?_ | refine Le.skip ?_))) (by omega) hs) ?_
              rintro _ rfl
              refine TL.p (EvP.not rfl) ?_
              refine TL.nil ?_
              refine TX.thenN rfl rfl ?_
              refine TC.cond rfl (fun h76 => ?_) (fun h76 => ?_)
              · refine TC.seq ?_
                refine TC.region ?_
                refine TL.p (EvP.assign rfl) ?_
                refine TL.nil ?_
                refine TX.thenN rfl rfl ?_
                refine TC.ret ?_
                refine TX.blkR ?_
                refine TX.thenR ?_
                refine TX.thenR ?_
                refine TX.blkR ?_
                refine TX.thenR ?_
                refine TX.done rfl (Res.one rfl rfl) (fun w hs => Post0.mk hs ?_ (by repeat (first | exact Le.refl _ | exact Le.nil _ | refine Le.hit ?_ | refine Le.hit1 ?_ | refine Le.hit2 ?_ | refine Le.hit3 ?_ | refine Le.hit4 ?_ | refine Le.hit5 ?_ | refine Le.hit6 ?_ | refine Le.hit7 ?_ | refine Le.hit8 ?_ | refine Le.hit9 ?_ | refine Le.hit10 ?_ | refine Le.skip ?_)))
                rw [wrong_gone hpids hbad hdup (allT_no (f := fun d : Dth => decide (d.1 ∈ live)) hd (by rw [← hp]; simpa using h76))]
              · refine TC.skip ?_
                refine TX.blkN ?_
                refine TX.thenN rfl rfl ?_
                refine TC.region ?_
                refine TL.p (EvP.add rfl rfl (by omega)) ?_
                refine TL.p (EvP.move rfl) ?_
                refine TL.nil ?_
                refine TX.back (i + 1) (⟨by omega, allT_next (f := fun d : Dth => decide (d.1 ∈ live)) hd (by rw [← hp]; simpa using h76) hliv0⟩) (by omega) ⟨rfl, rfl, rfl, rfl, rfl, rfl, trivial⟩ (by repeat (first | exact Le.refl _ | exact Le.nil _ | refine Le.hit ?_ | refine Le.hit1 ?_ | refine Le.hit2 ?_ | refine Le.hit3 ?_ | refine Le.hit4 ?_ | refine Le.hit5 ?_ | refine Le.hit6 ?_ | refine Le.hit7 ?_ | refine Le.hit8 ?_ | refine Le.hit9 ?_ | refine Le.hit10 ?_ | refine Le.skip ?_))
            · refine TL.nil ?_
              refine TX.thenN rfl rfl ?_
              refine TC.seq ?_
              refine TC.cfalse rfl ?_
              refine TC.exit ?_
              refine TX.thenE ?_
              refine TX.thenE ?_
              refine TX.blkH ?_
              refine TX.thenN rfl rfl ?_
              refine TC.seq ?_
              refine TC.region ?_
              have hlive : (ds.all fun d => decide (d.1 ∈ live)) = true := by rw [List.take_of_length_le (by omega)] at hliv0; exact hliv0
              refine TL.p (EvP.assign rfl) ?_
              refine TL.nil ?_
              refine TX.thenN rfl rfl ?_
              refine TC.ret ?_
              refine TX.done rfl (Res.one rfl rfl) (fun w hs => Post0.mk hs ?_ (by repeat (first | exact Le.refl _ | exact Le.nil _ | refine Le.hit ?_ | refine Le.hit1 ?_ | refine Le.hit2 ?_ | refine Le.hit3 ?_ | refine Le.hit4 ?_ | refine Le.hit5 ?_ | refine Le.hit6 ?_ | refine Le.hit7 ?_ | refine Le.hit8 ?_ | refine Le.hit9 ?_ | refine Le.hit10 ?_ | refine Le.skip ?_)))
              rw [wrong_ok hpids hbad hdup hlive]
end Go.Proofs.YtdbpandamnkpdaaDoor
