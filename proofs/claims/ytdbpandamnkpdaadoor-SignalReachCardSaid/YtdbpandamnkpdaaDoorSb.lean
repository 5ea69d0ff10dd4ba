/-
  Right cells and terms: the program and the document say the same.
-/
import Derived.Test.YtdbpandamnkpdaaDoorSa
set_option linter.unusedSimpArgs false
set_option linter.unusedVariables false
set_option maxRecDepth 100000
namespace Go.Proofs.YtdbpandamnkpdaaDoor
open Go Go.RowKit Go.Lib

/-! ### cells and terms -/
structure Cl where
  k : Int
  n : Int
  t : Str
  deriving DecidableEq
def Cl.enc (c : Cl) : List Value := [.int .i64 c.k, .int .i64 c.n, sv c.t]
def Cl.v (c : Cl) : Value := .agg c.enc.toArray
theorem encC_ok : Enc 3 Cl.enc := fun x => ⟨rfl, by intro u hu; simp only [Cl.enc, List.mem_cons, List.not_mem_nil, or_false] at hu; rcases hu with rfl | rfl | rfl <;> rfl⟩
/-- What is wrong of a cell. -/
def cellE (c : Cl) : Int :=
  if c.k < 1 ∨ 8 < c.k then 3
  else if (c.k ≠ 2 ∧ c.k ≠ 8) ∧ c.t ≠ [] then 3
  else if (c.k = 2 ∨ c.k = 6 ∨ c.k = 7 ∨ c.k = 8) ∧ c.n ≠ 0 then 3
  else if c.k = 3 ∧ (c.n < 1 ∨ 281474976710656 < c.n) then 1
  else if c.k = 4 ∧ (c.n < 1 ∨ 1099511627776 < c.n) then 1
  else if c.k = 5 ∧ (c.n < 0 ∨ 255 < c.n) then 1
  else if c.k = 2 ∧ (255 < c.t.length ∨ validD c.t = false) then 20
  else if c.k = 8 ∧ 1024 < c.t.length then 4
  else 0
/-- How many terms follow a cell. -/
def kids (c : Cl) : Int := if c.k = 7 then 2 else if c.k = 5 ∧ 0 ≤ c.n ∧ c.n ≤ 255 then c.n else 0
theorem kids_b (c : Cl) : 0 ≤ kids c ∧ kids c ≤ 255 := by
  unfold kids
  repeat' split
  all_goals omega
def rgo (n : Nat) : List Cl → Int → Nat → Int × Int
  | [], op, i => if 0 < op then (62, (n : Int)) else (0, 0)
  | c :: r, op, i => if cellE c ≠ 0 then (cellE c, (i : Int)) else if op = 0 then (63, (i : Int)) else rgo n r (op + kids c - 1) (i + 1)
/-- What is wrong of a term, and where. -/
def rightE (xs : List Cl) : Int × Int := if xs.length = 0 then (5, 0) else if 1024 < xs.length then (7, 0) else rgo xs.length xs 1 0
section
variable {xs : List Cl} {n i : Nat} {op : Int} {x : Cl}
theorem right_none (h : xs.length = 0) : rightE xs = (5, 0) := by unfold rightE; rw [if_pos h]
theorem right_large (h : 1024 < xs.length) : rightE xs = (7, 0) := by unfold rightE; rw [if_neg (by omega), if_pos h]
theorem right_go (h : ¬ xs.length = 0) (h2 : ¬ 1024 < xs.length) : rightE xs = rgo xs.length (xs.drop 0) 1 0 := by unfold rightE; rw [if_neg h, if_neg h2]; rfl
theorem rgo_cell (hx : xs[i]? = some x) (h : ¬ cellE x = 0) : rgo n (xs.drop i) op i = (cellE x, (i : Int)) := by rw [drop_cons hx]; unfold rgo; rw [if_pos h]
theorem rgo_more (hx : xs[i]? = some x) (h : cellE x = 0) (ho : op = 0) : rgo n (xs.drop i) op i = (63, (i : Int)) := by rw [drop_cons hx]; unfold rgo; rw [if_neg (by omega), if_pos ho]
theorem rgo_next (hx : xs[i]? = some x) (h : cellE x = 0) {op' : Int} (ho : ¬ op = 0 ∧ op' = op + kids x - 1) : rgo n (xs.drop i) op i = rgo n (xs.drop (i + 1)) op' (i + 1) := by
  rw [drop_cons hx, ho.2]
  conv => lhs; unfold rgo
  rw [if_neg (by omega), if_neg ho.1]
theorem rgo_short (hi : xs.length ≤ i) (h : 0 < op) : rgo xs.length (xs.drop i) op i = (62, (xs.length : Int)) := by rw [List.drop_eq_nil_of_le hi]; unfold rgo; rw [if_pos h]
theorem rgo_ok (hi : xs.length ≤ i) (h : ¬ 0 < op) : rgo xs.length (xs.drop i) op i = (0, 0) := by rw [List.drop_eq_nil_of_le hi]; unfold rgo; rw [if_neg h]
end

theorem wcell_spec {w0 w : World} {R : List Chunk} (hT : Tabs w0) (c : Cl) (hst : St w0 w R) : Calls Tryd.prog 46 #[c.v] w (Post0 w0 R fun v => v = .int .i64 (cellE c)) := by
  refine calls_of (args := [_]) Tryd.func46 rfl Tryd.ntmps46 hst ?_
  refine TC.seq ?_
  refine TC.region ?_
  refine TL.box rfl rfl (fun b1 => ?_)
  refine TL.p (EvP.assign rfl) ?_
  refine TL.nil ?_
  refine TX.thenN rfl rfl ?_
  refine TC.seq ?_
  refine TC.region ?_
  refine TL.p (EvP.fa (e := 0) rfl Tryd.runUnderlying57 rfl Tryd.sizeOf3 rfl) ?_
  refine TL.r (EvR.load rfl Tryd.isAgg3 (AtB.own (by repeat (first | exact Has.hd | refine Has.tlb ?_ | refine Has.tlc ?_))) (by rfl)) ?_
  refine TL.dec (EvP.eq rfl rfl) (fun h7 => ?_) (fun h7 => ?_)
  · refine TL.p (EvP.move rfl) ?_
    refine TL.gN rfl rfl rfl ?_
    refine TL.gN rfl rfl rfl ?_
    refine TL.gN rfl rfl rfl ?_
    refine TL.p (EvP.pickT rfl rfl) ?_
    refine TL.p (EvP.assign rfl) ?_
    refine TL.nil ?_
    refine TX.thenN rfl rfl ?_
    refine TC.seq ?_
    refine TC.region ?_
    refine TL.p (EvP.fa (e := 0) rfl Tryd.runUnderlying57 rfl Tryd.sizeOf3 rfl) ?_
    refine TL.r (EvR.load rfl Tryd.isAgg3 (AtB.own (by repeat (first | exact Has.hd | refine Has.tlb ?_ | refine Has.tlc ?_))) (by rfl)) ?_
    refine TL.p (EvP.isF (EvP.eq rfl rfl) (by omega)) ?_
    refine TL.p (EvP.move rfl) ?_
    refine TL.gY rfl rfl rfl ?_
    refine TL.p (EvP.fa (e := 0) rfl Tryd.runUnderlying57 rfl Tryd.sizeOf3 rfl) ?_
    refine TL.gY rfl rfl rfl ?_
    refine TL.r (EvR.load rfl Tryd.isAgg3 (AtB.own (by repeat (first | exact Has.hd | refine Has.tlb ?_ | refine Has.tlc ?_))) (by rfl)) ?_
    refine TL.gY rfl rfl rfl ?_
    refine TL.p (EvP.isF (EvP.eq rfl rfl) (by omega)) ?_
    refine TL.p (EvP.pickF rfl rfl) ?_
    refine TL.p (EvP.move rfl) ?_
    refine TL.gY rfl rfl rfl ?_
    refine TL.p (EvP.fa (e := 0) rfl Tryd.runUnderlying57 rfl Tryd.sizeOf3 rfl) ?_
    refine TL.gY rfl rfl rfl ?_
    refine TL.r (EvR.load rfl Tryd.isAgg3 (AtB.own (by repeat (first | exact Has.hd | refine Has.tlb ?_ | refine Has.tlc ?_))) (by rfl)) ?_
    refine TL.gY rfl rfl rfl ?_
    refine TL.p (EvP.isF (EvP.eq rfl rfl) (by omega)) ?_
    refine TL.p (EvP.pickF rfl rfl) ?_
    refine TL.p (EvP.move rfl) ?_
    refine TL.gY rfl rfl rfl ?_
    refine TL.p (EvP.fa (e := 0) rfl Tryd.runUnderlying57 rfl Tryd.sizeOf3 rfl) ?_
    refine TL.gY rfl rfl rfl ?_
    refine TL.r (EvR.load rfl Tryd.isAgg3 (AtB.own (by repeat (first | exact Has.hd | refine Has.tlb ?_ | refine Has.tlc ?_))) (by rfl)) ?_
    refine TL.gY rfl rfl rfl ?_
    refine TL.p (EvP.isF (EvP.eq rfl rfl) (by omega)) ?_
    refine TL.p (EvP.pickF rfl rfl) ?_
    refine TL.p (EvP.assign rfl) ?_
    refine TL.nil ?_
    refine TX.thenN rfl rfl ?_
    refine TC.seq ?_
    refine TC.block ?_
    refine TC.seq ?_
    refine TC.seq ?_
    refine TC.region ?_
    refine TL.p (EvP.fa (e := 0) rfl Tryd.runUnderlying57 rfl Tryd.sizeOf3 rfl) ?_
    refine TL.r (EvR.load rfl Tryd.isAgg3 (AtB.own (by repeat (first | exact Has.hd | refine Has.tlb ?_ | refine Has.tlc ?_))) (by rfl)) ?_
    refine TL.p (EvP.isF (EvP.lt rfl rfl) (by omega)) ?_
    refine TL.p (EvP.move rfl) ?_
    refine TL.gY rfl rfl rfl ?_
    refine TL.p (EvP.fa (e := 0) rfl Tryd.runUnderlying57 rfl Tryd.sizeOf3 rfl) ?_
    refine TL.gY rfl rfl rfl ?_
    refine TL.r (EvR.load rfl Tryd.isAgg3 (AtB.own (by repeat (first | exact Has.hd | refine Has.tlb ?_ | refine Has.tlc ?_))) (by rfl)) ?_
    refine TL.gY rfl rfl rfl ?_
    refine TL.p (EvP.isF (EvP.gt rfl rfl) (by omega)) ?_
    refine TL.p (EvP.pickF rfl rfl) ?_
    refine TL.p (EvP.assign rfl) ?_
    refine TL.nil ?_
    refine TX.thenN rfl rfl ?_
    refine TC.cfalse rfl ?_
    refine TC.seq ?_
    refine TC.region ?_
    refine TL.p (EvP.move rfl) ?_
    refine TL.p (EvP.not rfl) ?_
    refine TL.p (EvP.move rfl) ?_
    refine TL.gN rfl rfl rfl ?_
    refine TL.gN rfl rfl rfl ?_
    refine TL.gN rfl rfl rfl ?_
    refine TL.p (EvP.pickF rfl rfl) ?_
    refine TL.p (EvP.assign rfl) ?_
    refine TL.nil ?_
    refine TX.thenN rfl rfl ?_
    refine TC.cfalse rfl ?_
    refine TC.region ?_
    refine TL.p (EvP.move rfl) ?_
    refine TL.p (EvP.not rfl) ?_
    refine TL.p (EvP.move rfl) ?_
    refine TL.gY rfl rfl rfl ?_
    refine TL.p (EvP.fa (e := 1) rfl Tryd.runUnderlying57 rfl Tryd.sizeOf2 rfl) ?_
    refine TL.gY rfl rfl rfl ?_
    refine TL.r (EvR.load rfl Tryd.isAgg2 (AtB.own (by repeat (first | exact Has.hd | refine Has.tlb ?_ | refine Has.tlc ?_))) (by rfl)) ?_
    refine TL.gY rfl rfl rfl ?_
    refine TL.dec (EvP.ne rfl rfl) (fun h52 => ?_) (fun h52 => ?_)
    · refine TL.p (EvP.pickT rfl rfl) ?_
      refine TL.p (EvP.assign rfl) ?_
      refine TL.nil ?_
      refine TX.thenN rfl rfl ?_
      refine TC.ctrue rfl ?_
      refine TC.seq ?_
      refine TC.region ?_
      refine TL.p (EvP.assign rfl) ?_
      refine TL.nil ?_
      refine TX.thenN rfl rfl ?_
      refine TC.ret ?_
      refine TX.blkR ?_
      refine TX.thenR ?_
      refine TX.done rfl (Res.one rfl rfl) (fun w hs => Post0.mk hs ?_ (by repeat (first | exact Le.refl _ | exact Le.nil _ | refine Le.hit ?_ | refine Le.hit1 ?_ | refine Le.hit2 ?_ | refine Le.hit3 ?_ | refine Le.hit4 ?_ | refine Le.hit5 ?_ | refine Le.hit6 ?_ | refine Le.hit7 ?_ | refine Le.hit8 ?_ | refine Le.hit9 ?_ | refine Le.hit10 ?_ | refine Le.skip ?_)))
      show Value.int .i64 _ = Value.int .i64 (cellE c)
      congr 1
      unfold cellE
      repeat' (first | rfl | rw [if_pos (by first | omega | (constructor <;> first | omega | assumption) | (simp_all; done) | (simp_all; omega))] | rw [if_neg (by first | omega | (intro h; simp_all; done) | (intro h; simp_all; omega))])
    · refine TL.p (EvP.pickT rfl rfl) ?_
      refine TL.p (EvP.assign rfl) ?_
      refine TL.nil ?_
      refine TX.thenN rfl rfl ?_
      refine TC.cfalse rfl ?_
      refine TC.seq ?_
      refine TC.region ?_
      refine TL.p (EvP.fa (e := 0) rfl Tryd.runUnderlying57 rfl Tryd.sizeOf3 rfl) ?_
      refine TL.r (EvR.load rfl Tryd.isAgg3 (AtB.own (by repeat (first | exact Has.hd | refine Has.tlb ?_ | refine Has.tlc ?_))) (by rfl)) ?_
      refine TL.p (EvP.isF (EvP.eq rfl rfl) (by omega)) ?_
      refine TL.p (EvP.move rfl) ?_
      refine TL.gN rfl rfl rfl ?_
      refine TL.gN rfl rfl rfl ?_
      refine TL.gN rfl rfl rfl ?_
      refine TL.gN rfl rfl rfl ?_
      refine TL.gU rfl rfl ?_
      refine TL.gU rfl rfl ?_
      refine TL.gU rfl rfl ?_
      refine TL.gN rfl rfl rfl ?_
      refine TL.p (EvP.pickF rfl rfl) ?_
      refine TL.p (EvP.assign rfl) ?_
      refine TL.nil ?_
      refine TX.thenN rfl rfl ?_
      refine TC.cfalse rfl ?_
      refine TC.seq ?_
      refine TC.region ?_
      refine TL.p (EvP.fa (e := 0) rfl Tryd.runUnderlying57 rfl Tryd.sizeOf3 rfl) ?_
      refine TL.r (EvR.load rfl Tryd.isAgg3 (AtB.own (by repeat (first | exact Has.hd | refine Has.tlb ?_ | refine Has.tlc ?_))) (by rfl)) ?_
      refine TL.p (EvP.isF (EvP.eq rfl rfl) (by omega)) ?_
      refine TL.p (EvP.move rfl) ?_
      refine TL.gN rfl rfl rfl ?_
      refine TL.gN rfl rfl rfl ?_
      refine TL.gN rfl rfl rfl ?_
      refine TL.gN rfl rfl rfl ?_
      refine TL.gU rfl rfl ?_
      refine TL.gU rfl rfl ?_
      refine TL.gU rfl rfl ?_
      refine TL.gN rfl rfl rfl ?_
      refine TL.p (EvP.pickF rfl rfl) ?_
      refine TL.p (EvP.assign rfl) ?_
      refine TL.nil ?_
      refine TX.thenN rfl rfl ?_
      refine TC.cfalse rfl ?_
      refine TC.seq ?_
      refine TC.region ?_
      refine TL.p (EvP.fa (e := 0) rfl Tryd.runUnderlying57 rfl Tryd.sizeOf3 rfl) ?_
      refine TL.r (EvR.load rfl Tryd.isAgg3 (AtB.own (by repeat (first | exact Has.hd | refine Has.tlb ?_ | refine Has.tlc ?_))) (by rfl)) ?_
      refine TL.p (EvP.isF (EvP.eq rfl rfl) (by omega)) ?_
      refine TL.p (EvP.move rfl) ?_
      refine TL.gN rfl rfl rfl ?_
      refine TL.gN rfl rfl rfl ?_
      refine TL.gN rfl rfl rfl ?_
      refine TL.gN rfl rfl rfl ?_
      refine TL.gU rfl rfl ?_
      refine TL.gU rfl rfl ?_
      refine TL.gU rfl rfl ?_
      refine TL.gN rfl rfl rfl ?_
      refine TL.p (EvP.pickF rfl rfl) ?_
      refine TL.p (EvP.assign rfl) ?_
      refine TL.nil ?_
      refine TX.thenN rfl rfl ?_
      refine TC.cfalse rfl ?_
      refine TC.seq ?_
      refine TC.region ?_
      refine TL.p (EvP.fa (e := 0) rfl Tryd.runUnderlying57 rfl Tryd.sizeOf3 rfl) ?_
      refine TL.r (EvR.load rfl Tryd.isAgg3 (AtB.own (by repeat (first | exact Has.hd | refine Has.tlb ?_ | refine Has.tlc ?_))) (by rfl)) ?_
      refine TL.p (EvP.isT (EvP.eq rfl rfl) (by omega)) ?_
      refine TL.p (EvP.move rfl) ?_
      refine TL.gY rfl rfl rfl ?_
      refine TL.p (EvP.fa (e := 2) rfl Tryd.runUnderlying57 rfl Tryd.sizeOf9 rfl) ?_
      refine TL.gY rfl rfl rfl ?_
      refine TL.r (EvR.load rfl Tryd.isAgg9 (AtB.own (by repeat (first | exact Has.hd | refine Has.tlb ?_ | refine Has.tlc ?_))) (by rfl)) ?_
      refine TL.gY rfl rfl rfl ?_
      refine TL.p (EvP.lenL Tryd.runUnderlying9 rfl) ?_
      refine TL.gY rfl rfl rfl ?_
      refine TL.dec (EvP.gt rfl rfl) (fun h104 => ?_) (fun h104 => ?_)
      · refine TL.gY rfl rfl rfl ?_
        refine TL.p (EvP.move rfl) ?_
        refine TL.gN rfl rfl rfl ?_
        refine TL.gN rfl rfl rfl ?_
        refine TL.gN rfl rfl rfl ?_
        refine TL.gN rfl rfl rfl ?_
        refine TL.gY rfl rfl rfl ?_
        refine TL.p (EvP.pickT rfl rfl) ?_
        refine TL.p (EvP.pickT rfl rfl) ?_
        refine TL.p (EvP.assign rfl) ?_
        refine TL.nil ?_
        refine TX.thenN rfl rfl ?_
        refine TC.ctrue rfl ?_
        refine TC.seq ?_
        refine TC.region ?_
        refine TL.p (EvP.assign rfl) ?_
        refine TL.nil ?_
        refine TX.thenN rfl rfl ?_
        refine TC.ret ?_
        refine TX.blkR ?_
        refine TX.thenR ?_
        refine TX.done rfl (Res.one rfl rfl) (fun w hs => Post0.mk hs ?_ (by repeat (first | exact Le.refl _ | exact Le.nil _ | refine Le.hit ?_ | refine Le.hit1 ?_ | refine Le.hit2 ?_ | refine Le.hit3 ?_ | refine Le.hit4 ?_ | refine Le.hit5 ?_ | refine Le.hit6 ?_ | refine Le.hit7 ?_ | refine Le.hit8 ?_ | refine Le.hit9 ?_ | refine Le.hit10 ?_ | refine Le.skip ?_)))
        show Value.int .i64 _ = Value.int .i64 (cellE c)
        congr 1
        unfold cellE
        repeat' (first | rfl | rw [if_pos (by first | omega | (constructor <;> first | omega | assumption) | (simp_all; done) | (simp_all; omega))] | rw [if_neg (by first | omega | (intro h; simp_all; done) | (intro h; simp_all; omega))])
      · refine TL.gY rfl rfl rfl ?_
        refine TL.p (EvP.move rfl) ?_
        refine TL.gY rfl rfl rfl ?_
        refine TL.p (EvP.fa (e := 2) rfl Tryd.runUnderlying57 rfl Tryd.sizeOf9 rfl) ?_
        refine TL.gY rfl rfl rfl ?_
        refine TL.r (EvR.load rfl Tryd.isAgg9 (AtB.own (by repeat (first | exact Has.hd | refine Has.tlb ?_ | refine Has.tlc ?_))) (by rfl)) ?_
        refine TL.gY rfl rfl rfl ?_
        refine TL.callA rfl rfl Tryd.call67 (fun w hs => spelled_spec hT c.t hs) ?_
        rintro _ rfl
        refine TL.gY rfl rfl rfl ?_
        refine TL.p (EvP.not rfl) ?_
        refine TL.gY rfl rfl rfl ?_
        refine TL.p (EvP.pickF rfl rfl) ?_
        refine TL.p (EvP.pickT rfl rfl) ?_
        refine TL.p (EvP.assign rfl) ?_
        refine TL.nil ?_
        refine TX.thenN rfl rfl ?_
        refine TC.cond rfl (fun h96 => ?_) (fun h96 => ?_)
        · refine TC.seq ?_
          refine TC.region ?_
          refine TL.p (EvP.assign rfl) ?_
          refine TL.nil ?_
          refine TX.thenN rfl rfl ?_
          refine TC.ret ?_
          refine TX.blkR ?_
          refine TX.thenR ?_
          refine TX.done rfl (Res.one rfl rfl) (fun w hs => Post0.mk hs ?_ (by repeat (first | exact Le.refl _ | exact Le.nil _ | refine Le.hit ?_ | refine Le.hit1 ?_ | refine Le.hit2 ?_ | refine Le.hit3 ?_ | refine Le.hit4 ?_ | refine Le.hit5 ?_ | refine Le.hit6 ?_ | refine Le.hit7 ?_ | refine Le.hit8 ?_ | refine Le.hit9 ?_ | refine Le.hit10 ?_ | refine Le.skip ?_)))
          show Value.int .i64 _ = Value.int .i64 (cellE c)
          congr 1
          unfold cellE
          repeat' (first | rfl | rw [if_pos (by first | omega | (constructor <;> first | omega | assumption) | (simp_all; done) | (simp_all; omega))] | rw [if_neg (by first | omega | (intro h; simp_all; done) | (intro h; simp_all; omega))])
        · refine TC.seq ?_
          refine TC.region ?_
          refine TL.p (EvP.fa (e := 0) rfl Tryd.runUnderlying57 rfl Tryd.sizeOf3 rfl) ?_
          refine TL.r (EvR.load rfl Tryd.isAgg3 (AtB.own (by repeat (first | exact Has.hd | refine Has.tlb ?_ | refine Has.tlc ?_))) (by rfl)) ?_
          refine TL.p (EvP.isF (EvP.eq rfl rfl) (by omega)) ?_
          refine TL.p (EvP.move rfl) ?_
          refine TL.gN rfl rfl rfl ?_
          refine TL.gN rfl rfl rfl ?_
          refine TL.gN rfl rfl rfl ?_
          refine TL.gN rfl rfl rfl ?_
          refine TL.p (EvP.pickF rfl rfl) ?_
          refine TL.p (EvP.assign rfl) ?_
          refine TL.nil ?_
          refine TX.thenN rfl rfl ?_
          refine TC.cfalse rfl ?_
          refine TC.skip ?_
          refine TX.blkN ?_
          refine TX.thenN rfl rfl ?_
          refine TC.seq ?_
          refine TC.region ?_
          refine TL.p (EvP.assign rfl) ?_
          refine TL.nil ?_
          refine TX.thenN rfl rfl ?_
          refine TC.ret ?_
          refine TX.done rfl (Res.one rfl rfl) (fun w hs => Post0.mk hs ?_ (by repeat (first | exact Le.refl _ | exact Le.nil _ | refine Le.hit ?_ | refine Le.hit1 ?_ | refine Le.hit2 ?_ | refine Le.hit3 ?_ | refine Le.hit4 ?_ | refine Le.hit5 ?_ | refine Le.hit6 ?_ | refine Le.hit7 ?_ | refine Le.hit8 ?_ | refine Le.hit9 ?_ | refine Le.hit10 ?_ | refine Le.skip ?_)))
          show Value.int .i64 _ = Value.int .i64 (cellE c)
          congr 1
          unfold cellE
          repeat' (first | rfl | rw [if_pos (by first | omega | (constructor <;> first | omega | assumption) | (simp_all; done) | (simp_all; omega))] | rw [if_neg (by first | omega | (intro h; simp_all; done) | (intro h; simp_all; omega))])
  · refine TL.p (EvP.move rfl) ?_
    refine TL.gY rfl rfl rfl ?_
    refine TL.p (EvP.fa (e := 0) rfl Tryd.runUnderlying57 rfl Tryd.sizeOf3 rfl) ?_
    refine TL.gY rfl rfl rfl ?_
    refine TL.r (EvR.load rfl Tryd.isAgg3 (AtB.own (by repeat (first | exact Has.hd | refine Has.tlb ?_ | refine Has.tlc ?_))) (by rfl)) ?_
    refine TL.gY rfl rfl rfl ?_
    refine TL.dec (EvP.eq rfl rfl) (fun h11 => ?_) (fun h11 => ?_)
    · refine TL.p (EvP.pickF rfl rfl) ?_
      refine TL.p (EvP.assign rfl) ?_
      refine TL.nil ?_
      refine TX.thenN rfl rfl ?_
      refine TC.seq ?_
      refine TC.region ?_
      refine TL.p (EvP.fa (e := 0) rfl Tryd.runUnderlying57 rfl Tryd.sizeOf3 rfl) ?_
      refine TL.r (EvR.load rfl Tryd.isAgg3 (AtB.own (by repeat (first | exact Has.hd | refine Has.tlb ?_ | refine Has.tlc ?_))) (by rfl)) ?_
      refine TL.p (EvP.isF (EvP.eq rfl rfl) (by omega)) ?_
      refine TL.p (EvP.move rfl) ?_
      refine TL.gY rfl rfl rfl ?_
      refine TL.p (EvP.fa (e := 0) rfl Tryd.runUnderlying57 rfl Tryd.sizeOf3 rfl) ?_
      refine TL.gY rfl rfl rfl ?_
      refine TL.r (EvR.load rfl Tryd.isAgg3 (AtB.own (by repeat (first | exact Has.hd | refine Has.tlb ?_ | refine Has.tlc ?_))) (by rfl)) ?_
      refine TL.gY rfl rfl rfl ?_
      refine TL.p (EvP.isF (EvP.eq rfl rfl) (by omega)) ?_
      refine TL.p (EvP.pickF rfl rfl) ?_
      refine TL.p (EvP.move rfl) ?_
      refine TL.gY rfl rfl rfl ?_
      refine TL.p (EvP.fa (e := 0) rfl Tryd.runUnderlying57 rfl Tryd.sizeOf3 rfl) ?_
      refine TL.gY rfl rfl rfl ?_
      refine TL.r (EvR.load rfl Tryd.isAgg3 (AtB.own (by repeat (first | exact Has.hd | refine Has.tlb ?_ | refine Has.tlc ?_))) (by rfl)) ?_
      refine TL.gY rfl rfl rfl ?_
      refine TL.p (EvP.isF (EvP.eq rfl rfl) (by omega)) ?_
      refine TL.p (EvP.pickF rfl rfl) ?_
      refine TL.p (EvP.move rfl) ?_
      refine TL.gY rfl rfl rfl ?_
      refine TL.p (EvP.fa (e := 0) rfl Tryd.runUnderlying57 rfl Tryd.sizeOf3 rfl) ?_
      refine TL.gY rfl rfl rfl ?_
      refine TL.r (EvR.load rfl Tryd.isAgg3 (AtB.own (by repeat (first | exact Has.hd | refine Has.tlb ?_ | refine Has.tlc ?_))) (by rfl)) ?_
      refine TL.gY rfl rfl rfl ?_
      refine TL.p (EvP.isF (EvP.eq rfl rfl) (by omega)) ?_
      refine TL.p (EvP.pickF rfl rfl) ?_
      refine TL.p (EvP.assign rfl) ?_
      refine TL.nil ?_
      refine TX.thenN rfl rfl ?_
      refine TC.seq ?_
      refine TC.block ?_
      refine TC.seq ?_
      refine TC.seq ?_
      refine TC.region ?_
      refine TL.p (EvP.fa (e := 0) rfl Tryd.runUnderlying57 rfl Tryd.sizeOf3 rfl) ?_
      refine TL.r (EvR.load rfl Tryd.isAgg3 (AtB.own (by repeat (first | exact Has.hd | refine Has.tlb ?_ | refine Has.tlc ?_))) (by rfl)) ?_
      refine TL.p (EvP.isF (EvP.lt rfl rfl) (by omega)) ?_
      refine TL.p (EvP.move rfl) ?_
      refine TL.gY rfl rfl rfl ?_
      refine TL.p (EvP.fa (e := 0) rfl Tryd.runUnderlying57 rfl Tryd.sizeOf3 rfl) ?_
      refine TL.gY rfl rfl rfl ?_
      refine TL.r (EvR.load rfl Tryd.isAgg3 (AtB.own (by repeat (first | exact Has.hd | refine Has.tlb ?_ | refine Has.tlc ?_))) (by rfl)) ?_
      refine TL.gY rfl rfl rfl ?_
      refine TL.p (EvP.isF (EvP.gt rfl rfl) (by omega)) ?_
      refine TL.p (EvP.pickF rfl rfl) ?_
      refine TL.p (EvP.assign rfl) ?_
      refine TL.nil ?_
      refine TX.thenN rfl rfl ?_
      refine TC.cfalse rfl ?_
      refine TC.seq ?_
      refine TC.region ?_
      refine TL.p (EvP.move rfl) ?_
      refine TL.p (EvP.not rfl) ?_
      refine TL.p (EvP.move rfl) ?_
      refine TL.gN rfl rfl rfl ?_
      refine TL.gN rfl rfl rfl ?_
      refine TL.gN rfl rfl rfl ?_
      refine TL.p (EvP.pickF rfl rfl) ?_
      refine TL.p (EvP.assign rfl) ?_
      refine TL.nil ?_
      refine TX.thenN rfl rfl ?_
      refine TC.cfalse rfl ?_
      refine TC.region ?_
      refine TL.p (EvP.move rfl) ?_
      refine TL.p (EvP.not rfl) ?_
      refine TL.p (EvP.move rfl) ?_
      refine TL.gY rfl rfl rfl ?_
      refine TL.p (EvP.fa (e := 1) rfl Tryd.runUnderlying57 rfl Tryd.sizeOf2 rfl) ?_
      refine TL.gY rfl rfl rfl ?_
      refine TL.r (EvR.load rfl Tryd.isAgg2 (AtB.own (by repeat (first | exact Has.hd | refine Has.tlb ?_ | refine Has.tlc ?_))) (by rfl)) ?_
      refine TL.gY rfl rfl rfl ?_
      refine TL.dec (EvP.ne rfl rfl) (fun h52 => ?_) (fun h52 => ?_)
      · refine TL.p (EvP.pickT rfl rfl) ?_
        refine TL.p (EvP.assign rfl) ?_
        refine TL.nil ?_
        refine TX.thenN rfl rfl ?_
        refine TC.ctrue rfl ?_
        refine TC.seq ?_
        refine TC.region ?_
        refine TL.p (EvP.assign rfl) ?_
        refine TL.nil ?_
        refine TX.thenN rfl rfl ?_
        refine TC.ret ?_
        refine TX.blkR ?_
        refine TX.thenR ?_
        refine TX.done rfl (Res.one rfl rfl) (fun w hs => Post0.mk hs ?_ (by repeat (first | exact Le.refl _ | exact Le.nil _ | refine Le.hit ?_ | refine Le.hit1 ?_ | refine Le.hit2 ?_ | refine Le.hit3 ?_ | refine Le.hit4 ?_ | refine Le.hit5 ?_ | refine Le.hit6 ?_ | refine Le.hit7 ?_ | refine Le.hit8 ?_ | refine Le.hit9 ?_ | refine Le.hit10 ?_ | refine Le.skip ?_)))
        show Value.int .i64 _ = Value.int .i64 (cellE c)
        congr 1
        unfold cellE
        repeat' (first | rfl | rw [if_pos (by first | omega | (constructor <;> first | omega | assumption) | (simp_all; done) | (simp_all; omega))] | rw [if_neg (by first | omega | (intro h; simp_all; done) | (intro h; simp_all; omega))])
      · refine TL.p (EvP.pickT rfl rfl) ?_
        refine TL.p (EvP.assign rfl) ?_
        refine TL.nil ?_
        refine TX.thenN rfl rfl ?_
        refine TC.cfalse rfl ?_
        refine TC.seq ?_
        refine TC.region ?_
        refine TL.p (EvP.fa (e := 0) rfl Tryd.runUnderlying57 rfl Tryd.sizeOf3 rfl) ?_
        refine TL.r (EvR.load rfl Tryd.isAgg3 (AtB.own (by repeat (first | exact Has.hd | refine Has.tlb ?_ | refine Has.tlc ?_))) (by rfl)) ?_
        refine TL.p (EvP.isF (EvP.eq rfl rfl) (by omega)) ?_
        refine TL.p (EvP.move rfl) ?_
        refine TL.gN rfl rfl rfl ?_
        refine TL.gN rfl rfl rfl ?_
        refine TL.gN rfl rfl rfl ?_
        refine TL.gN rfl rfl rfl ?_
        refine TL.gU rfl rfl ?_
        refine TL.gU rfl rfl ?_
        refine TL.gU rfl rfl ?_
        refine TL.gN rfl rfl rfl ?_
        refine TL.p (EvP.pickF rfl rfl) ?_
        refine TL.p (EvP.assign rfl) ?_
        refine TL.nil ?_
        refine TX.thenN rfl rfl ?_
        refine TC.cfalse rfl ?_
        refine TC.seq ?_
        refine TC.region ?_
        refine TL.p (EvP.fa (e := 0) rfl Tryd.runUnderlying57 rfl Tryd.sizeOf3 rfl) ?_
        refine TL.r (EvR.load rfl Tryd.isAgg3 (AtB.own (by repeat (first | exact Has.hd | refine Has.tlb ?_ | refine Has.tlc ?_))) (by rfl)) ?_
        refine TL.p (EvP.isF (EvP.eq rfl rfl) (by omega)) ?_
        refine TL.p (EvP.move rfl) ?_
        refine TL.gN rfl rfl rfl ?_
        refine TL.gN rfl rfl rfl ?_
        refine TL.gN rfl rfl rfl ?_
        refine TL.gN rfl rfl rfl ?_
        refine TL.gU rfl rfl ?_
        refine TL.gU rfl rfl ?_
        refine TL.gU rfl rfl ?_
        refine TL.gN rfl rfl rfl ?_
        refine TL.p (EvP.pickF rfl rfl) ?_
        refine TL.p (EvP.assign rfl) ?_
        refine TL.nil ?_
        refine TX.thenN rfl rfl ?_
        refine TC.cfalse rfl ?_
        refine TC.seq ?_
        refine TC.region ?_
        refine TL.p (EvP.fa (e := 0) rfl Tryd.runUnderlying57 rfl Tryd.sizeOf3 rfl) ?_
        refine TL.r (EvR.load rfl Tryd.isAgg3 (AtB.own (by repeat (first | exact Has.hd | refine Has.tlb ?_ | refine Has.tlc ?_))) (by rfl)) ?_
        refine TL.p (EvP.isF (EvP.eq rfl rfl) (by omega)) ?_
        refine TL.p (EvP.move rfl) ?_
        refine TL.gN rfl rfl rfl ?_
        refine TL.gN rfl rfl rfl ?_
        refine TL.gN rfl rfl rfl ?_
        refine TL.gN rfl rfl rfl ?_
        refine TL.gU rfl rfl ?_
        refine TL.gU rfl rfl ?_
        refine TL.gU rfl rfl ?_
        refine TL.gN rfl rfl rfl ?_
        refine TL.p (EvP.pickF rfl rfl) ?_
        refine TL.p (EvP.assign rfl) ?_
        refine TL.nil ?_
        refine TX.thenN rfl rfl ?_
        refine TC.cfalse rfl ?_
        refine TC.seq ?_
        refine TC.region ?_
        refine TL.p (EvP.fa (e := 0) rfl Tryd.runUnderlying57 rfl Tryd.sizeOf3 rfl) ?_
        refine TL.r (EvR.load rfl Tryd.isAgg3 (AtB.own (by repeat (first | exact Has.hd | refine Has.tlb ?_ | refine Has.tlc ?_))) (by rfl)) ?_
        refine TL.p (EvP.isF (EvP.eq rfl rfl) (by omega)) ?_
        refine TL.p (EvP.move rfl) ?_
        refine TL.gN rfl rfl rfl ?_
        refine TL.gN rfl rfl rfl ?_
        refine TL.gN rfl rfl rfl ?_
        refine TL.gN rfl rfl rfl ?_
        refine TL.gN rfl rfl rfl ?_
        refine TL.gU rfl rfl ?_
        refine TL.gU rfl rfl ?_
        refine TL.gU rfl rfl ?_
        refine TL.gU rfl rfl ?_
        refine TL.gN rfl rfl rfl ?_
        refine TL.p (EvP.pickF rfl rfl) ?_
        refine TL.p (EvP.assign rfl) ?_
        refine TL.nil ?_
        refine TX.thenN rfl rfl ?_
        refine TC.cfalse rfl ?_
        refine TC.seq ?_
        refine TC.region ?_
        refine TL.p (EvP.fa (e := 0) rfl Tryd.runUnderlying57 rfl Tryd.sizeOf3 rfl) ?_
        refine TL.r (EvR.load rfl Tryd.isAgg3 (AtB.own (by repeat (first | exact Has.hd | refine Has.tlb ?_ | refine Has.tlc ?_))) (by rfl)) ?_
        refine TL.p (EvP.isT (EvP.eq rfl rfl) (by omega)) ?_
        refine TL.p (EvP.move rfl) ?_
        refine TL.gY rfl rfl rfl ?_
        refine TL.p (EvP.fa (e := 2) rfl Tryd.runUnderlying57 rfl Tryd.sizeOf9 rfl) ?_
        refine TL.gY rfl rfl rfl ?_
        refine TL.r (EvR.load rfl Tryd.isAgg9 (AtB.own (by repeat (first | exact Has.hd | refine Has.tlb ?_ | refine Has.tlc ?_))) (by rfl)) ?_
        refine TL.gY rfl rfl rfl ?_
        refine TL.p (EvP.lenL Tryd.runUnderlying9 rfl) ?_
        refine TL.gY rfl rfl rfl ?_
        refine TL.dec (EvP.gt rfl rfl) (fun h120 => ?_) (fun h120 => ?_)
        · refine TL.p (EvP.pickT rfl rfl) ?_
          refine TL.p (EvP.assign rfl) ?_
          refine TL.nil ?_
          refine TX.thenN rfl rfl ?_
          refine TC.ctrue rfl ?_
          refine TC.seq ?_
          refine TC.region ?_
          refine TL.p (EvP.assign rfl) ?_
          refine TL.nil ?_
          refine TX.thenN rfl rfl ?_
          refine TC.ret ?_
          refine TX.blkR ?_
          refine TX.thenR ?_
          refine TX.done rfl (Res.one rfl rfl) (fun w hs => Post0.mk hs ?_ (by repeat (first | exact Le.refl _ | exact Le.nil _ | refine Le.hit ?_ | refine Le.hit1 ?_ | refine Le.hit2 ?_ | refine Le.hit3 ?_ | refine Le.hit4 ?_ | refine Le.hit5 ?_ | refine Le.hit6 ?_ | refine Le.hit7 ?_ | refine Le.hit8 ?_ | refine Le.hit9 ?_ | refine Le.hit10 ?_ | refine Le.skip ?_)))
          show Value.int .i64 _ = Value.int .i64 (cellE c)
          congr 1
          unfold cellE
          repeat' (first | rfl | rw [if_pos (by first | omega | (constructor <;> first | omega | assumption) | (simp_all; done) | (simp_all; omega))] | rw [if_neg (by first | omega | (intro h; simp_all; done) | (intro h; simp_all; omega))])
        · refine TL.p (EvP.pickT rfl rfl) ?_
          refine TL.p (EvP.assign rfl) ?_
          refine TL.nil ?_
          refine TX.thenN rfl rfl ?_
          refine TC.cfalse rfl ?_
          refine TC.skip ?_
          refine TX.blkN ?_
          refine TX.thenN rfl rfl ?_
          refine TC.seq ?_
          refine TC.region ?_
          refine TL.p (EvP.assign rfl) ?_
          refine TL.nil ?_
          refine TX.thenN rfl rfl ?_
          refine TC.ret ?_
          refine TX.done rfl (Res.one rfl rfl) (fun w hs => Post0.mk hs ?_ (by repeat (first | exact Le.refl _ | exact Le.nil _ | refine Le.hit ?_ | refine Le.hit1 ?_ | refine Le.hit2 ?_ | refine Le.hit3 ?_ | refine Le.hit4 ?_ | refine Le.hit5 ?_ | refine Le.hit6 ?_ | refine Le.hit7 ?_ | refine Le.hit8 ?_ | refine Le.hit9 ?_ | refine Le.hit10 ?_ | refine Le.skip ?_)))
          show Value.int .i64 _ = Value.int .i64 (cellE c)
          congr 1
          unfold cellE
          repeat' (first | rfl | rw [if_pos (by first | omega | (constructor <;> first | omega | assumption) | (simp_all; done) | (simp_all; omega))] | rw [if_neg (by first | omega | (intro h; simp_all; done) | (intro h; simp_all; omega))])
    · refine TL.p (EvP.pickF rfl rfl) ?_
      refine TL.p (EvP.assign rfl) ?_
      refine TL.nil ?_
      refine TX.thenN rfl rfl ?_
      refine TC.seq ?_
      refine TC.region ?_
      refine TL.p (EvP.fa (e := 0) rfl Tryd.runUnderlying57 rfl Tryd.sizeOf3 rfl) ?_
      refine TL.r (EvR.load rfl Tryd.isAgg3 (AtB.own (by repeat (first | exact Has.hd | refine Has.tlb ?_ | refine Has.tlc ?_))) (by rfl)) ?_
      refine TL.dec (EvP.eq rfl rfl) (fun h15 => ?_) (fun h15 => ?_)
      · refine TL.p (EvP.move rfl) ?_
        refine TL.gN rfl rfl rfl ?_
        refine TL.gN rfl rfl rfl ?_
        refine TL.gN rfl rfl rfl ?_
        refine TL.p (EvP.pickT rfl rfl) ?_
        refine TL.p (EvP.move rfl) ?_
        refine TL.gN rfl rfl rfl ?_
        refine TL.gN rfl rfl rfl ?_
        refine TL.gN rfl rfl rfl ?_
        refine TL.p (EvP.pickT rfl rfl) ?_
        refine TL.p (EvP.move rfl) ?_
        refine TL.gN rfl rfl rfl ?_
        refine TL.gN rfl rfl rfl ?_
        refine TL.gN rfl rfl rfl ?_
        refine TL.p (EvP.pickT rfl rfl) ?_
        refine TL.p (EvP.assign rfl) ?_
        refine TL.nil ?_
        refine TX.thenN rfl rfl ?_
        refine TC.seq ?_
        refine TC.block ?_
        refine TC.seq ?_
        refine TC.seq ?_
        refine TC.region ?_
        refine TL.p (EvP.fa (e := 0) rfl Tryd.runUnderlying57 rfl Tryd.sizeOf3 rfl) ?_
        refine TL.r (EvR.load rfl Tryd.isAgg3 (AtB.own (by repeat (first | exact Has.hd | refine Has.tlb ?_ | refine Has.tlc ?_))) (by rfl)) ?_
        refine TL.p (EvP.isF (EvP.lt rfl rfl) (by omega)) ?_
        refine TL.p (EvP.move rfl) ?_
        refine TL.gY rfl rfl rfl ?_
        refine TL.p (EvP.fa (e := 0) rfl Tryd.runUnderlying57 rfl Tryd.sizeOf3 rfl) ?_
        refine TL.gY rfl rfl rfl ?_
        refine TL.r (EvR.load rfl Tryd.isAgg3 (AtB.own (by repeat (first | exact Has.hd | refine Has.tlb ?_ | refine Has.tlc ?_))) (by rfl)) ?_
        refine TL.gY rfl rfl rfl ?_
        refine TL.p (EvP.isF (EvP.gt rfl rfl) (by omega)) ?_
        refine TL.p (EvP.pickF rfl rfl) ?_
        refine TL.p (EvP.assign rfl) ?_
        refine TL.nil ?_
        refine TX.thenN rfl rfl ?_
        refine TC.cfalse rfl ?_
        refine TC.seq ?_
        refine TC.region ?_
        refine TL.p (EvP.move rfl) ?_
        refine TL.p (EvP.not rfl) ?_
        refine TL.p (EvP.move rfl) ?_
        refine TL.gY rfl rfl rfl ?_
        refine TL.p (EvP.fa (e := 2) rfl Tryd.runUnderlying57 rfl Tryd.sizeOf9 rfl) ?_
        refine TL.gY rfl rfl rfl ?_
        refine TL.r (EvR.load rfl Tryd.isAgg9 (AtB.own (by repeat (first | exact Has.hd | refine Has.tlb ?_ | refine Has.tlc ?_))) (by rfl)) ?_
        refine TL.gY rfl rfl rfl ?_
        refine TL.dec (EvP.neS rfl rfl) (fun h45 => ?_) (fun h45 => ?_)
        · refine TL.p (EvP.pickT rfl rfl) ?_
          refine TL.p (EvP.assign rfl) ?_
          refine TL.nil ?_
          refine TX.thenN rfl rfl ?_
          refine TC.ctrue rfl ?_
          refine TC.skip ?_
          refine TX.thenN rfl rfl ?_
          refine TC.ctrue rfl ?_
          refine TC.seq ?_
          refine TC.region ?_
          refine TL.p (EvP.assign rfl) ?_
          refine TL.nil ?_
          refine TX.thenN rfl rfl ?_
          refine TC.ret ?_
          refine TX.blkR ?_
          refine TX.thenR ?_
          refine TX.done rfl (Res.one rfl rfl) (fun w hs => Post0.mk hs ?_ (by repeat (first | exact Le.refl _ | exact Le.nil _ | refine Le.hit ?_ | refine Le.hit1 ?_ | refine Le.hit2 ?_ | refine Le.hit3 ?_ | refine Le.hit4 ?_ | refine Le.hit5 ?_ | refine Le.hit6 ?_ | refine Le.hit7 ?_ | refine Le.hit8 ?_ | refine Le.hit9 ?_ | refine Le.hit10 ?_ | refine Le.skip ?_)))
          show Value.int .i64 _ = Value.int .i64 (cellE c)
          congr 1
          unfold cellE
          repeat' (first | rfl | rw [if_pos (by first | omega | (constructor <;> first | omega | assumption) | (simp_all; done) | (simp_all; omega))] | rw [if_neg (by first | omega | (intro h; simp_all; done) | (intro h; simp_all; omega))])
        · refine TL.p (EvP.pickT rfl rfl) ?_
          refine TL.p (EvP.assign rfl) ?_
          refine TL.nil ?_
          refine TX.thenN rfl rfl ?_
          refine TC.cfalse rfl ?_
          refine TC.region ?_
          refine TL.p (EvP.move rfl) ?_
          refine TL.p (EvP.not rfl) ?_
          refine TL.p (EvP.move rfl) ?_
          refine TL.gN rfl rfl rfl ?_
          refine TL.gN rfl rfl rfl ?_
          refine TL.gN rfl rfl rfl ?_
          refine TL.p (EvP.pickF rfl rfl) ?_
          refine TL.p (EvP.assign rfl) ?_
          refine TL.nil ?_
          refine TX.thenN rfl rfl ?_
          refine TC.cfalse rfl ?_
          refine TC.seq ?_
          refine TC.region ?_
          refine TL.p (EvP.fa (e := 0) rfl Tryd.runUnderlying57 rfl Tryd.sizeOf3 rfl) ?_
          refine TL.r (EvR.load rfl Tryd.isAgg3 (AtB.own (by repeat (first | exact Has.hd | refine Has.tlb ?_ | refine Has.tlc ?_))) (by rfl)) ?_
          refine TL.p (EvP.isF (EvP.eq rfl rfl) (by omega)) ?_
          refine TL.p (EvP.move rfl) ?_
          refine TL.gN rfl rfl rfl ?_
          refine TL.gN rfl rfl rfl ?_
          refine TL.gN rfl rfl rfl ?_
          refine TL.gN rfl rfl rfl ?_
          refine TL.gU rfl rfl ?_
          refine TL.gU rfl rfl ?_
          refine TL.gU rfl rfl ?_
          refine TL.gN rfl rfl rfl ?_
          refine TL.p (EvP.pickF rfl rfl) ?_
          refine TL.p (EvP.assign rfl) ?_
          refine TL.nil ?_
          refine TX.thenN rfl rfl ?_
          refine TC.cfalse rfl ?_
          refine TC.seq ?_
          refine TC.region ?_
          refine TL.p (EvP.fa (e := 0) rfl Tryd.runUnderlying57 rfl Tryd.sizeOf3 rfl) ?_
          refine TL.r (EvR.load rfl Tryd.isAgg3 (AtB.own (by repeat (first | exact Has.hd | refine Has.tlb ?_ | refine Has.tlc ?_))) (by rfl)) ?_
          refine TL.p (EvP.isF (EvP.eq rfl rfl) (by omega)) ?_
          refine TL.p (EvP.move rfl) ?_
          refine TL.gN rfl rfl rfl ?_
          refine TL.gN rfl rfl rfl ?_
          refine TL.gN rfl rfl rfl ?_
          refine TL.gN rfl rfl rfl ?_
          refine TL.gU rfl rfl ?_
          refine TL.gU rfl rfl ?_
          refine TL.gU rfl rfl ?_
          refine TL.gN rfl rfl rfl ?_
          refine TL.p (EvP.pickF rfl rfl) ?_
          refine TL.p (EvP.assign rfl) ?_
          refine TL.nil ?_
          refine TX.thenN rfl rfl ?_
          refine TC.cfalse rfl ?_
          refine TC.seq ?_
          refine TC.region ?_
          refine TL.p (EvP.fa (e := 0) rfl Tryd.runUnderlying57 rfl Tryd.sizeOf3 rfl) ?_
          refine TL.r (EvR.load rfl Tryd.isAgg3 (AtB.own (by repeat (first | exact Has.hd | refine Has.tlb ?_ | refine Has.tlc ?_))) (by rfl)) ?_
          refine TL.p (EvP.isF (EvP.eq rfl rfl) (by omega)) ?_
          refine TL.p (EvP.move rfl) ?_
          refine TL.gN rfl rfl rfl ?_
          refine TL.gN rfl rfl rfl ?_
          refine TL.gN rfl rfl rfl ?_
          refine TL.gN rfl rfl rfl ?_
          refine TL.gU rfl rfl ?_
          refine TL.gU rfl rfl ?_
          refine TL.gU rfl rfl ?_
          refine TL.gN rfl rfl rfl ?_
          refine TL.p (EvP.pickF rfl rfl) ?_
          refine TL.p (EvP.assign rfl) ?_
          refine TL.nil ?_
          refine TX.thenN rfl rfl ?_
          refine TC.cfalse rfl ?_
          refine TC.seq ?_
          refine TC.region ?_
          refine TL.p (EvP.fa (e := 0) rfl Tryd.runUnderlying57 rfl Tryd.sizeOf3 rfl) ?_
          refine TL.r (EvR.load rfl Tryd.isAgg3 (AtB.own (by repeat (first | exact Has.hd | refine Has.tlb ?_ | refine Has.tlc ?_))) (by rfl)) ?_
          refine TL.p (EvP.isF (EvP.eq rfl rfl) (by omega)) ?_
          refine TL.p (EvP.move rfl) ?_
          refine TL.gN rfl rfl rfl ?_
          refine TL.gN rfl rfl rfl ?_
          refine TL.gN rfl rfl rfl ?_
          refine TL.gN rfl rfl rfl ?_
          refine TL.gN rfl rfl rfl ?_
          refine TL.gU rfl rfl ?_
          refine TL.gU rfl rfl ?_
          refine TL.gU rfl rfl ?_
          refine TL.gU rfl rfl ?_
          refine TL.gN rfl rfl rfl ?_
          refine TL.p (EvP.pickF rfl rfl) ?_
          refine TL.p (EvP.assign rfl) ?_
          refine TL.nil ?_
          refine TX.thenN rfl rfl ?_
          refine TC.cfalse rfl ?_
          refine TC.seq ?_
          refine TC.region ?_
          refine TL.p (EvP.fa (e := 0) rfl Tryd.runUnderlying57 rfl Tryd.sizeOf3 rfl) ?_
          refine TL.r (EvR.load rfl Tryd.isAgg3 (AtB.own (by repeat (first | exact Has.hd | refine Has.tlb ?_ | refine Has.tlc ?_))) (by rfl)) ?_
          refine TL.p (EvP.isF (EvP.eq rfl rfl) (by omega)) ?_
          refine TL.p (EvP.move rfl) ?_
          refine TL.gN rfl rfl rfl ?_
          refine TL.gN rfl rfl rfl ?_
          refine TL.gN rfl rfl rfl ?_
          refine TL.gN rfl rfl rfl ?_
          refine TL.p (EvP.pickF rfl rfl) ?_
          refine TL.p (EvP.assign rfl) ?_
          refine TL.nil ?_
          refine TX.thenN rfl rfl ?_
          refine TC.cfalse rfl ?_
          refine TC.skip ?_
          refine TX.blkN ?_
          refine TX.thenN rfl rfl ?_
          refine TC.seq ?_
          refine TC.region ?_
          refine TL.p (EvP.assign rfl) ?_
          refine TL.nil ?_
          refine TX.thenN rfl rfl ?_
          refine TC.ret ?_
          refine TX.done rfl (Res.one rfl rfl) (fun w hs => Post0.mk hs ?_ (by repeat (first | exact Le.refl _ | exact Le.nil _ | refine Le.hit ?_ | refine Le.hit1 ?_ | refine Le.hit2 ?_ | refine Le.hit3 ?_ | refine Le.hit4 ?_ | refine Le.hit5 ?_ | refine Le.hit6 ?_ | refine Le.hit7 ?_ | refine Le.hit8 ?_ | refine Le.hit9 ?_ | refine Le.hit10 ?_ | refine Le.skip ?_)))
          show Value.int .i64 _ = Value.int .i64 (cellE c)
          congr 1
          unfold cellE
          repeat' (first | rfl | rw [if_pos (by first | omega | (constructor <;> first | omega | assumption) | (simp_all; done) | (simp_all; omega))] | rw [if_neg (by first | omega | (intro h; simp_all; done) | (intro h; simp_all; omega))])
      · refine TL.p (EvP.move rfl) ?_
        refine TL.gY rfl rfl rfl ?_
        refine TL.p (EvP.fa (e := 0) rfl Tryd.runUnderlying57 rfl Tryd.sizeOf3 rfl) ?_
        refine TL.gY rfl rfl rfl ?_
        refine TL.r (EvR.load rfl Tryd.isAgg3 (AtB.own (by repeat (first | exact Has.hd | refine Has.tlb ?_ | refine Has.tlc ?_))) (by rfl)) ?_
        refine TL.gY rfl rfl rfl ?_
        refine TL.dec (EvP.eq rfl rfl) (fun h19 => ?_) (fun h19 => ?_)
        · refine TL.p (EvP.pickF rfl rfl) ?_
          refine TL.p (EvP.move rfl) ?_
          refine TL.gN rfl rfl rfl ?_
          refine TL.gN rfl rfl rfl ?_
          refine TL.gN rfl rfl rfl ?_
          refine TL.p (EvP.pickT rfl rfl) ?_
          refine TL.p (EvP.move rfl) ?_
          refine TL.gN rfl rfl rfl ?_
          refine TL.gN rfl rfl rfl ?_
          refine TL.gN rfl rfl rfl ?_
          refine TL.p (EvP.pickT rfl rfl) ?_
          refine TL.p (EvP.assign rfl) ?_
          refine TL.nil ?_
          refine TX.thenN rfl rfl ?_
          refine TC.seq ?_
          refine TC.block ?_
          refine TC.seq ?_
          refine TC.seq ?_
          refine TC.region ?_
          refine TL.p (EvP.fa (e := 0) rfl Tryd.runUnderlying57 rfl Tryd.sizeOf3 rfl) ?_
          refine TL.r (EvR.load rfl Tryd.isAgg3 (AtB.own (by repeat (first | exact Has.hd | refine Has.tlb ?_ | refine Has.tlc ?_))) (by rfl)) ?_
          refine TL.p (EvP.isF (EvP.lt rfl rfl) (by omega)) ?_
          refine TL.p (EvP.move rfl) ?_
          refine TL.gY rfl rfl rfl ?_
          refine TL.p (EvP.fa (e := 0) rfl Tryd.runUnderlying57 rfl Tryd.sizeOf3 rfl) ?_
          refine TL.gY rfl rfl rfl ?_
          refine TL.r (EvR.load rfl Tryd.isAgg3 (AtB.own (by repeat (first | exact Has.hd | refine Has.tlb ?_ | refine Has.tlc ?_))) (by rfl)) ?_
          refine TL.gY rfl rfl rfl ?_
          refine TL.p (EvP.isF (EvP.gt rfl rfl) (by omega)) ?_
          refine TL.p (EvP.pickF rfl rfl) ?_
          refine TL.p (EvP.assign rfl) ?_
          refine TL.nil ?_
          refine TX.thenN rfl rfl ?_
          refine TC.cfalse rfl ?_
          refine TC.seq ?_
          refine TC.region ?_
          refine TL.p (EvP.move rfl) ?_
          refine TL.p (EvP.not rfl) ?_
          refine TL.p (EvP.move rfl) ?_
          refine TL.gY rfl rfl rfl ?_
          refine TL.p (EvP.fa (e := 2) rfl Tryd.runUnderlying57 rfl Tryd.sizeOf9 rfl) ?_
          refine TL.gY rfl rfl rfl ?_
          refine TL.r (EvR.load rfl Tryd.isAgg9 (AtB.own (by repeat (first | exact Has.hd | refine Has.tlb ?_ | refine Has.tlc ?_))) (by rfl)) ?_
          refine TL.gY rfl rfl rfl ?_
          refine TL.dec (EvP.neS rfl rfl) (fun h45 => ?_) (fun h45 => ?_)
          · refine TL.p (EvP.pickT rfl rfl) ?_
            refine TL.p (EvP.assign rfl) ?_
            refine TL.nil ?_
            refine TX.thenN rfl rfl ?_
            refine TC.ctrue rfl ?_
            refine TC.skip ?_
            refine TX.thenN rfl rfl ?_
            refine TC.ctrue rfl ?_
            refine TC.seq ?_
            refine TC.region ?_
            refine TL.p (EvP.assign rfl) ?_
            refine TL.nil ?_
            refine TX.thenN rfl rfl ?_
            refine TC.ret ?_
            refine TX.blkR ?_
            refine TX.thenR ?_
            refine TX.done rfl (Res.one rfl rfl) (fun w hs => Post0.mk hs ?_ (by repeat (first | exact Le.refl _ | exact Le.nil _ | refine Le.hit ?_ | refine Le.hit1 ?_ | refine Le.hit2 ?_ | refine Le.hit3 ?_ | refine Le.hit4 ?_ | refine Le.hit5 ?_ | refine Le.hit6 ?_ | refine Le.hit7 ?_ | refine Le.hit8 ?_ | refine Le.hit9 ?_ | refine Le.hit10 ?_ | refine Le.skip ?_)))
            show Value.int .i64 _ = Value.int .i64 (cellE c)
            congr 1
            unfold cellE
            repeat' (first | rfl | rw [if_pos (by first | omega | (constructor <;> first | omega | assumption) | (simp_all; done) | (simp_all; omega))] | rw [if_neg (by first | omega | (intro h; simp_all; done) | (intro h; simp_all; omega))])
          · refine TL.p (EvP.pickT rfl rfl) ?_
            refine TL.p (EvP.assign rfl) ?_
            refine TL.nil ?_
            refine TX.thenN rfl rfl ?_
            refine TC.cfalse rfl ?_
            refine TC.region ?_
            refine TL.p (EvP.move rfl) ?_
            refine TL.p (EvP.not rfl) ?_
            refine TL.p (EvP.move rfl) ?_
            refine TL.gN rfl rfl rfl ?_
            refine TL.gN rfl rfl rfl ?_
            refine TL.gN rfl rfl rfl ?_
            refine TL.p (EvP.pickF rfl rfl) ?_
            refine TL.p (EvP.assign rfl) ?_
            refine TL.nil ?_
            refine TX.thenN rfl rfl ?_
            refine TC.cfalse rfl ?_
            refine TC.seq ?_
            refine TC.region ?_
            refine TL.p (EvP.fa (e := 0) rfl Tryd.runUnderlying57 rfl Tryd.sizeOf3 rfl) ?_
            refine TL.r (EvR.load rfl Tryd.isAgg3 (AtB.own (by repeat (first | exact Has.hd | refine Has.tlb ?_ | refine Has.tlc ?_))) (by rfl)) ?_
            refine TL.p (EvP.isT (EvP.eq rfl rfl) (by omega)) ?_
            refine TL.p (EvP.move rfl) ?_
            refine TL.gY rfl rfl rfl ?_
            refine TL.p (EvP.fa (e := 1) rfl Tryd.runUnderlying57 rfl Tryd.sizeOf2 rfl) ?_
            refine TL.gY rfl rfl rfl ?_
            refine TL.r (EvR.load rfl Tryd.isAgg2 (AtB.own (by repeat (first | exact Has.hd | refine Has.tlb ?_ | refine Has.tlc ?_))) (by rfl)) ?_
            refine TL.gY rfl rfl rfl ?_
            refine TL.dec (EvP.lt rfl rfl) (fun h61 => ?_) (fun h61 => ?_)
            · refine TL.gY rfl rfl rfl ?_
              refine TL.p (EvP.move rfl) ?_
              refine TL.gN rfl rfl rfl ?_
              refine TL.gN rfl rfl rfl ?_
              refine TL.gN rfl rfl rfl ?_
              refine TL.gY rfl rfl rfl ?_
              refine TL.p (EvP.pickT rfl rfl) ?_
              refine TL.p (EvP.pickT rfl rfl) ?_
              refine TL.p (EvP.assign rfl) ?_
              refine TL.nil ?_
              refine TX.thenN rfl rfl ?_
              refine TC.ctrue rfl ?_
              refine TC.seq ?_
              refine TC.region ?_
              refine TL.p (EvP.assign rfl) ?_
              refine TL.nil ?_
              refine TX.thenN rfl rfl ?_
              refine TC.ret ?_
              refine TX.blkR ?_
              refine TX.thenR ?_
              refine TX.done rfl (Res.one rfl rfl) (fun w hs => Post0.mk hs ?_ (by repeat (first | exact Le.refl _ | exact Le.nil _ | refine Le.hit ?_ | refine Le.hit1 ?_ | refine Le.hit2 ?_ | refine Le.hit3 ?_ | refine Le.hit4 ?_ | refine Le.hit5 ?_ | refine Le.hit6 ?_ | refine Le.hit7 ?_ | refine Le.hit8 ?_ | refine Le.hit9 ?_ | refine Le.hit10 ?_ | refine Le.skip ?_)))
              show Value.int .i64 _ = Value.int .i64 (cellE c)
              congr 1
              unfold cellE
              repeat' (first | rfl | rw [if_pos (by first | omega | (constructor <;> first | omega | assumption) | (simp_all; done) | (simp_all; omega))] | rw [if_neg (by first | omega | (intro h; simp_all; done) | (intro h; simp_all; omega))])
            · refine TL.gY rfl rfl rfl ?_
              refine TL.p (EvP.move rfl) ?_
              refine TL.gY rfl rfl rfl ?_
              refine TL.p (EvP.fa (e := 1) rfl Tryd.runUnderlying57 rfl Tryd.sizeOf2 rfl) ?_
              refine TL.gY rfl rfl rfl ?_
              refine TL.r (EvR.load rfl Tryd.isAgg2 (AtB.own (by repeat (first | exact Has.hd | refine Has.tlb ?_ | refine Has.tlc ?_))) (by rfl)) ?_
              refine TL.gY rfl rfl rfl ?_
              refine TL.dec (EvP.gt rfl rfl) (fun h65 => ?_) (fun h65 => ?_)
              · refine TL.gY rfl rfl rfl ?_
                refine TL.p (EvP.pickF rfl rfl) ?_
                refine TL.p (EvP.pickT rfl rfl) ?_
                refine TL.p (EvP.assign rfl) ?_
                refine TL.nil ?_
                refine TX.thenN rfl rfl ?_
                refine TC.ctrue rfl ?_
                refine TC.seq ?_
                refine TC.region ?_
                refine TL.p (EvP.assign rfl) ?_
                refine TL.nil ?_
                refine TX.thenN rfl rfl ?_
                refine TC.ret ?_
                refine TX.blkR ?_
                refine TX.thenR ?_
                refine TX.done rfl (Res.one rfl rfl) (fun w hs => Post0.mk hs ?_ (by repeat (first | exact Le.refl _ | exact Le.nil _ | refine Le.hit ?_ | refine Le.hit1 ?_ | refine Le.hit2 ?_ | refine Le.hit3 ?_ | refine Le.hit4 ?_ | refine Le.hit5 ?_ | refine Le.hit6 ?_ | refine Le.hit7 ?_ | refine Le.hit8 ?_ | refine Le.hit9 ?_ | refine Le.hit10 ?_ | refine Le.skip ?_)))
                show Value.int .i64 _ = Value.int .i64 (cellE c)
                congr 1
                unfold cellE
                repeat' (first | rfl | rw [if_pos (by first | omega | (constructor <;> first | omega | assumption) | (simp_all; done) | (simp_all; omega))] | rw [if_neg (by first | omega | (intro h; simp_all; done) | (intro h; simp_all; omega))])
              · refine TL.gY rfl rfl rfl ?_
                refine TL.p (EvP.pickF rfl rfl) ?_
                refine TL.p (EvP.pickT rfl rfl) ?_
                refine TL.p (EvP.assign rfl) ?_
                refine TL.nil ?_
                refine TX.thenN rfl rfl ?_
                refine TC.cfalse rfl ?_
                refine TC.seq ?_
                refine TC.region ?_
                refine TL.p (EvP.fa (e := 0) rfl Tryd.runUnderlying57 rfl Tryd.sizeOf3 rfl) ?_
                refine TL.r (EvR.load rfl Tryd.isAgg3 (AtB.own (by repeat (first | exact Has.hd | refine Has.tlb ?_ | refine Has.tlc ?_))) (by rfl)) ?_
                refine TL.p (EvP.isF (EvP.eq rfl rfl) (by omega)) ?_
                refine TL.p (EvP.move rfl) ?_
                refine TL.gN rfl rfl rfl ?_
                refine TL.gN rfl rfl rfl ?_
                refine TL.gN rfl rfl rfl ?_
                refine TL.gN rfl rfl rfl ?_
                refine TL.gU rfl rfl ?_
                refine TL.gU rfl rfl ?_
                refine TL.gU rfl rfl ?_
                refine TL.gN rfl rfl rfl ?_
                refine TL.p (EvP.pickF rfl rfl) ?_
                refine TL.p (EvP.assign rfl) ?_
                refine TL.nil ?_
                refine TX.thenN rfl rfl ?_
                refine TC.cfalse rfl ?_
                refine TC.seq ?_
                refine TC.region ?_
                refine TL.p (EvP.fa (e := 0) rfl Tryd.runUnderlying57 rfl Tryd.sizeOf3 rfl) ?_
                refine TL.r (EvR.load rfl Tryd.isAgg3 (AtB.own (by repeat (first | exact Has.hd | refine Has.tlb ?_ | refine Has.tlc ?_))) (by rfl)) ?_
                refine TL.p (EvP.isF (EvP.eq rfl rfl) (by omega)) ?_
                refine TL.p (EvP.move rfl) ?_
                refine TL.gN rfl rfl rfl ?_
                refine TL.gN rfl rfl rfl ?_
                refine TL.gN rfl rfl rfl ?_
                refine TL.gN rfl rfl rfl ?_
                refine TL.gU rfl rfl ?_
                refine TL.gU rfl rfl ?_
                refine TL.gU rfl rfl ?_
                refine TL.gN rfl rfl rfl ?_
                refine TL.p (EvP.pickF rfl rfl) ?_
                refine TL.p (EvP.assign rfl) ?_
                refine TL.nil ?_
                refine TX.thenN rfl rfl ?_
                refine TC.cfalse rfl ?_
                refine TC.seq ?_
                refine TC.region ?_
                refine TL.p (EvP.fa (e := 0) rfl Tryd.runUnderlying57 rfl Tryd.sizeOf3 rfl) ?_
                refine TL.r (EvR.load rfl Tryd.isAgg3 (AtB.own (by repeat (first | exact Has.hd | refine Has.tlb ?_ | refine Has.tlc ?_))) (by rfl)) ?_
                refine TL.p (EvP.isF (EvP.eq rfl rfl) (by omega)) ?_
                refine TL.p (EvP.move rfl) ?_
                refine TL.gN rfl rfl rfl ?_
                refine TL.gN rfl rfl rfl ?_
                refine TL.gN rfl rfl rfl ?_
                refine TL.gN rfl rfl rfl ?_
                refine TL.gN rfl rfl rfl ?_
                refine TL.gU rfl rfl ?_
                refine TL.gU rfl rfl ?_
                refine TL.gU rfl rfl ?_
                refine TL.gU rfl rfl ?_
                refine TL.gN rfl rfl rfl ?_
                refine TL.p (EvP.pickF rfl rfl) ?_
                refine TL.p (EvP.assign rfl) ?_
                refine TL.nil ?_
                refine TX.thenN rfl rfl ?_
                refine TC.cfalse rfl ?_
                refine TC.seq ?_
                refine TC.region ?_
                refine TL.p (EvP.fa (e := 0) rfl Tryd.runUnderlying57 rfl Tryd.sizeOf3 rfl) ?_
                refine TL.r (EvR.load rfl Tryd.isAgg3 (AtB.own (by repeat (first | exact Has.hd | refine Has.tlb ?_ | refine Has.tlc ?_))) (by rfl)) ?_
                refine TL.p (EvP.isF (EvP.eq rfl rfl) (by omega)) ?_
                refine TL.p (EvP.move rfl) ?_
                refine TL.gN rfl rfl rfl ?_
                refine TL.gN rfl rfl rfl ?_
                refine TL.gN rfl rfl rfl ?_
                refine TL.gN rfl rfl rfl ?_
                refine TL.p (EvP.pickF rfl rfl) ?_
                refine TL.p (EvP.assign rfl) ?_
                refine TL.nil ?_
                refine TX.thenN rfl rfl ?_
                refine TC.cfalse rfl ?_
                refine TC.skip ?_
                refine TX.blkN ?_
                refine TX.thenN rfl rfl ?_
                refine TC.seq ?_
                refine TC.region ?_
                refine TL.p (EvP.assign rfl) ?_
                refine TL.nil ?_
                refine TX.thenN rfl rfl ?_
                refine TC.ret ?_
                refine TX.done rfl (Res.one rfl rfl) (fun w hs => Post0.mk hs ?_ (by repeat (first | exact Le.refl _ | exact Le.nil _ | refine Le.hit ?_ | refine Le.hit1 ?_ | refine Le.hit2 ?_ | refine Le.hit3 ?_ | refine Le.hit4 ?_ | refine Le.hit5 ?_ | refine Le.hit6 ?_ | refine Le.hit7 ?_ | refine Le.hit8 ?_ | refine Le.hit9 ?_ | refine Le.hit10 ?_ | refine Le.skip ?_)))
                show Value.int .i64 _ = Value.int .i64 (cellE c)
                congr 1
                unfold cellE
                repeat' (first | rfl | rw [if_pos (by first | omega | (constructor <;> first | omega | assumption) | (simp_all; done) | (simp_all; omega))] | rw [if_neg (by first | omega | (intro h; simp_all; done) | (intro h; simp_all; omega))])
        · refine TL.p (EvP.pickF rfl rfl) ?_
          refine TL.p (EvP.move rfl) ?_
          refine TL.gY rfl rfl rfl ?_
          refine TL.p (EvP.fa (e := 0) rfl Tryd.runUnderlying57 rfl Tryd.sizeOf3 rfl) ?_
          refine TL.gY rfl rfl rfl ?_
          refine TL.r (EvR.load rfl Tryd.isAgg3 (AtB.own (by repeat (first | exact Has.hd | refine Has.tlb ?_ | refine Has.tlc ?_))) (by rfl)) ?_
          refine TL.gY rfl rfl rfl ?_
          refine TL.dec (EvP.eq rfl rfl) (fun h24 => ?_) (fun h24 => ?_)
          · refine TL.p (EvP.pickF rfl rfl) ?_
            refine TL.p (EvP.move rfl) ?_
            refine TL.gN rfl rfl rfl ?_
            refine TL.gN rfl rfl rfl ?_
            refine TL.gN rfl rfl rfl ?_
            refine TL.p (EvP.pickT rfl rfl) ?_
            refine TL.p (EvP.assign rfl) ?_
            refine TL.nil ?_
            refine TX.thenN rfl rfl ?_
            refine TC.seq ?_
            refine TC.block ?_
            refine TC.seq ?_
            refine TC.seq ?_
            refine TC.region ?_
            refine TL.p (EvP.fa (e := 0) rfl Tryd.runUnderlying57 rfl Tryd.sizeOf3 rfl) ?_
            refine TL.r (EvR.load rfl Tryd.isAgg3 (AtB.own (by repeat (first | exact Has.hd | refine Has.tlb ?_ | refine Has.tlc ?_))) (by rfl)) ?_
            refine TL.p (EvP.isF (EvP.lt rfl rfl) (by omega)) ?_
            refine TL.p (EvP.move rfl) ?_
            refine TL.gY rfl rfl rfl ?_
            refine TL.p (EvP.fa (e := 0) rfl Tryd.runUnderlying57 rfl Tryd.sizeOf3 rfl) ?_
            refine TL.gY rfl rfl rfl ?_
            refine TL.r (EvR.load rfl Tryd.isAgg3 (AtB.own (by repeat (first | exact Has.hd | refine Has.tlb ?_ | refine Has.tlc ?_))) (by rfl)) ?_
            refine TL.gY rfl rfl rfl ?_
            refine TL.p (EvP.isF (EvP.gt rfl rfl) (by omega)) ?_
            refine TL.p (EvP.pickF rfl rfl) ?_
            refine TL.p (EvP.assign rfl) ?_
            refine TL.nil ?_
            refine TX.thenN rfl rfl ?_
            refine TC.cfalse rfl ?_
            refine TC.seq ?_
            refine TC.region ?_
            refine TL.p (EvP.move rfl) ?_
            refine TL.p (EvP.not rfl) ?_
            refine TL.p (EvP.move rfl) ?_
            refine TL.gY rfl rfl rfl ?_
            refine TL.p (EvP.fa (e := 2) rfl Tryd.runUnderlying57 rfl Tryd.sizeOf9 rfl) ?_
            refine TL.gY rfl rfl rfl ?_
            refine TL.r (EvR.load rfl Tryd.isAgg9 (AtB.own (by repeat (first | exact Has.hd | refine Has.tlb ?_ | refine Has.tlc ?_))) (by rfl)) ?_
            refine TL.gY rfl rfl rfl ?_
            refine TL.dec (EvP.neS rfl rfl) (fun h45 => ?_) (fun h45 => ?_)
            · refine TL.p (EvP.pickT rfl rfl) ?_
              refine TL.p (EvP.assign rfl) ?_
              refine TL.nil ?_
              refine TX.thenN rfl rfl ?_
              refine TC.ctrue rfl ?_
              refine TC.skip ?_
              refine TX.thenN rfl rfl ?_
              refine TC.ctrue rfl ?_
              refine TC.seq ?_
              refine TC.region ?_
              refine TL.p (EvP.assign rfl) ?_
              refine TL.nil ?_
              refine TX.thenN rfl rfl ?_
              refine TC.ret ?_
              refine TX.blkR ?_
              refine TX.thenR ?_
              refine TX.done rfl (Res.one rfl rfl) (fun w hs => Post0.mk hs ?_ (by repeat (first | exact Le.refl _ | exact Le.nil _ | refine Le.hit ?_ | refine Le.hit1 ?_ | refine Le.hit2 ?_ | refine Le.hit3 ?_ | refine Le.hit4 ?_ | refine Le.hit5 ?_ | refine Le.hit6 ?_ | refine Le.hit7 ?_ | refine Le.hit8 ?_ | refine Le.hit9 ?_ | refine Le.hit10 ?_ | refine Le.skip ?_)))
              show Value.int .i64 _ = Value.int .i64 (cellE c)
              congr 1
              unfold cellE
              repeat' (first | rfl | rw [if_pos (by first | omega | (constructor <;> first | omega | assumption) | (simp_all; done) | (simp_all; omega))] | rw [if_neg (by first | omega | (intro h; simp_all; done) | (intro h; simp_all; omega))])
            · refine TL.p (EvP.pickT rfl rfl) ?_
              refine TL.p (EvP.assign rfl) ?_
              refine TL.nil ?_
              refine TX.thenN rfl rfl ?_
              refine TC.cfalse rfl ?_
              refine TC.region ?_
              refine TL.p (EvP.move rfl) ?_
              refine TL.p (EvP.not rfl) ?_
              refine TL.p (EvP.move rfl) ?_
              refine TL.gN rfl rfl rfl ?_
              refine TL.gN rfl rfl rfl ?_
              refine TL.gN rfl rfl rfl ?_
              refine TL.p (EvP.pickF rfl rfl) ?_
              refine TL.p (EvP.assign rfl) ?_
              refine TL.nil ?_
              refine TX.thenN rfl rfl ?_
              refine TC.cfalse rfl ?_
              refine TC.seq ?_
              refine TC.region ?_
              refine TL.p (EvP.fa (e := 0) rfl Tryd.runUnderlying57 rfl Tryd.sizeOf3 rfl) ?_
              refine TL.r (EvR.load rfl Tryd.isAgg3 (AtB.own (by repeat (first | exact Has.hd | refine Has.tlb ?_ | refine Has.tlc ?_))) (by rfl)) ?_
              refine TL.p (EvP.isF (EvP.eq rfl rfl) (by omega)) ?_
              refine TL.p (EvP.move rfl) ?_
              refine TL.gN rfl rfl rfl ?_
              refine TL.gN rfl rfl rfl ?_
              refine TL.gN rfl rfl rfl ?_
              refine TL.gN rfl rfl rfl ?_
              refine TL.gU rfl rfl ?_
              refine TL.gU rfl rfl ?_
              refine TL.gU rfl rfl ?_
              refine TL.gN rfl rfl rfl ?_
              refine TL.p (EvP.pickF rfl rfl) ?_
              refine TL.p (EvP.assign rfl) ?_
              refine TL.nil ?_
              refine TX.thenN rfl rfl ?_
              refine TC.cfalse rfl ?_
              refine TC.seq ?_
              refine TC.region ?_
              refine TL.p (EvP.fa (e := 0) rfl Tryd.runUnderlying57 rfl Tryd.sizeOf3 rfl) ?_
              refine TL.r (EvR.load rfl Tryd.isAgg3 (AtB.own (by repeat (first | exact Has.hd | refine Has.tlb ?_ | refine Has.tlc ?_))) (by rfl)) ?_
              refine TL.p (EvP.isT (EvP.eq rfl rfl) (by omega)) ?_
              refine TL.p (EvP.move rfl) ?_
              refine TL.gY rfl rfl rfl ?_
              refine TL.p (EvP.fa (e := 1) rfl Tryd.runUnderlying57 rfl Tryd.sizeOf2 rfl) ?_
              refine TL.gY rfl rfl rfl ?_
              refine TL.r (EvR.load rfl Tryd.isAgg2 (AtB.own (by repeat (first | exact Has.hd | refine Has.tlb ?_ | refine Has.tlc ?_))) (by rfl)) ?_
              refine TL.gY rfl rfl rfl ?_
              refine TL.dec (EvP.lt rfl rfl) (fun h75 => ?_) (fun h75 => ?_)
              · refine TL.gY rfl rfl rfl ?_
                refine TL.p (EvP.move rfl) ?_
                refine TL.gN rfl rfl rfl ?_
                refine TL.gN rfl rfl rfl ?_
                refine TL.gN rfl rfl rfl ?_
                refine TL.gY rfl rfl rfl ?_
                refine TL.p (EvP.pickT rfl rfl) ?_
                refine TL.p (EvP.pickT rfl rfl) ?_
                refine TL.p (EvP.assign rfl) ?_
                refine TL.nil ?_
                refine TX.thenN rfl rfl ?_
                refine TC.ctrue rfl ?_
                refine TC.seq ?_
                refine TC.region ?_
                refine TL.p (EvP.assign rfl) ?_
                refine TL.nil ?_
                refine TX.thenN rfl rfl ?_
                refine TC.ret ?_
                refine TX.blkR ?_
                refine TX.thenR ?_
                refine TX.done rfl (Res.one rfl rfl) (fun w hs => Post0.mk hs ?_ (by repeat (first | exact Le.refl _ | exact Le.nil _ | refine Le.hit ?_ | refine Le.hit1 ?_ | refine Le.hit2 ?_ | refine Le.hit3 ?_ | refine Le.hit4 ?_ | refine Le.hit5 ?_ | refine Le.hit6 ?_ | refine Le.hit7 ?_ | refine Le.hit8 ?_ | refine Le.hit9 ?_ | refine Le.hit10 ?_ | refine Le.skip ?_)))
                show Value.int .i64 _ = Value.int .i64 (cellE c)
                congr 1
                unfold cellE
                repeat' (first | rfl | rw [if_pos (by first | omega | (constructor <;> first | omega | assumption) | (simp_all; done) | (simp_all; omega))] | rw [if_neg (by first | omega | (intro h; simp_all; done) | (intro h; simp_all; omega))])
              · refine TL.gY rfl rfl rfl ?_
                refine TL.p (EvP.move rfl) ?_
                refine TL.gY rfl rfl rfl ?_
                refine TL.p (EvP.fa (e := 1) rfl Tryd.runUnderlying57 rfl Tryd.sizeOf2 rfl) ?_
                refine TL.gY rfl rfl rfl ?_
                refine TL.r (EvR.load rfl Tryd.isAgg2 (AtB.own (by repeat (first | exact Has.hd | refine Has.tlb ?_ | refine Has.tlc ?_))) (by rfl)) ?_
                refine TL.gY rfl rfl rfl ?_
                refine TL.dec (EvP.gt rfl rfl) (fun h79 => ?_) (fun h79 => ?_)
                · refine TL.gY rfl rfl rfl ?_
                  refine TL.p (EvP.pickF rfl rfl) ?_
                  refine TL.p (EvP.pickT rfl rfl) ?_
                  refine TL.p (EvP.assign rfl) ?_
                  refine TL.nil ?_
                  refine TX.thenN rfl rfl ?_
                  refine TC.ctrue rfl ?_
                  refine TC.seq ?_
                  refine TC.region ?_
                  refine TL.p (EvP.assign rfl) ?_
                  refine TL.nil ?_
                  refine TX.thenN rfl rfl ?_
                  refine TC.ret ?_
                  refine TX.blkR ?_
                  refine TX.thenR ?_
                  refine TX.done rfl (Res.one rfl rfl) (fun w hs => Post0.mk hs ?_ (by repeat (first | exact Le.refl _ | exact Le.nil _ | refine Le.hit ?_ | refine Le.hit1 ?_ | refine Le.hit2 ?_ | refine Le.hit3 ?_ | refine Le.hit4 ?_ | refine Le.hit5 ?_ | refine Le.hit6 ?_ | refine Le.hit7 ?_ | refine Le.hit8 ?_ | refine Le.hit9 ?_ | refine Le.hit10 ?_ | refine Le.skip ?_)))
                  show Value.int .i64 _ = Value.int .i64 (cellE c)
                  congr 1
                  unfold cellE
                  repeat' (first | rfl | rw [if_pos (by first | omega | (constructor <;> first | omega | assumption) | (simp_all; done) | (simp_all; omega))] | rw [if_neg (by first | omega | (intro h; simp_all; done) | (intro h; simp_all; omega))])
                · refine TL.gY rfl rfl rfl ?_
                  refine TL.p (EvP.pickF rfl rfl) ?_
                  refine TL.p (EvP.pickT rfl rfl) ?_
                  refine TL.p (EvP.assign rfl) ?_
                  refine TL.nil ?_
                  refine TX.thenN rfl rfl ?_
                  refine TC.cfalse rfl ?_
                  refine TC.seq ?_
                  refine TC.region ?_
                  refine TL.p (EvP.fa (e := 0) rfl Tryd.runUnderlying57 rfl Tryd.sizeOf3 rfl) ?_
                  refine TL.r (EvR.load rfl Tryd.isAgg3 (AtB.own (by repeat (first | exact Has.hd | refine Has.tlb ?_ | refine Has.tlc ?_))) (by rfl)) ?_
                  refine TL.p (EvP.isF (EvP.eq rfl rfl) (by omega)) ?_
                  refine TL.p (EvP.move rfl) ?_
                  refine TL.gN rfl rfl rfl ?_
                  refine TL.gN rfl rfl rfl ?_
                  refine TL.gN rfl rfl rfl ?_
                  refine TL.gN rfl rfl rfl ?_
                  refine TL.gU rfl rfl ?_
                  refine TL.gU rfl rfl ?_
                  refine TL.gU rfl rfl ?_
                  refine TL.gN rfl rfl rfl ?_
                  refine TL.p (EvP.pickF rfl rfl) ?_
                  refine TL.p (EvP.assign rfl) ?_
                  refine TL.nil ?_
                  refine TX.thenN rfl rfl ?_
                  refine TC.cfalse rfl ?_
                  refine TC.seq ?_
                  refine TC.region ?_
                  refine TL.p (EvP.fa (e := 0) rfl Tryd.runUnderlying57 rfl Tryd.sizeOf3 rfl) ?_
                  refine TL.r (EvR.load rfl Tryd.isAgg3 (AtB.own (by repeat (first | exact Has.hd | refine Has.tlb ?_ | refine Has.tlc ?_))) (by rfl)) ?_
                  refine TL.p (EvP.isF (EvP.eq rfl rfl) (by omega)) ?_
                  refine TL.p (EvP.move rfl) ?_
                  refine TL.gN rfl rfl rfl ?_
                  refine TL.gN rfl rfl rfl ?_
                  refine TL.gN rfl rfl rfl ?_
                  refine TL.gN rfl rfl rfl ?_
                  refine TL.gN rfl rfl rfl ?_
                  refine TL.gU rfl rfl ?_
                  refine TL.gU rfl rfl ?_
                  refine TL.gU rfl rfl ?_
                  refine TL.gU rfl rfl ?_
                  refine TL.gN rfl rfl rfl ?_
                  refine TL.p (EvP.pickF rfl rfl) ?_
                  refine TL.p (EvP.assign rfl) ?_
                  refine TL.nil ?_
                  refine TX.thenN rfl rfl ?_
                  refine TC.cfalse rfl ?_
                  refine TC.seq ?_
                  refine TC.region ?_
                  refine TL.p (EvP.fa (e := 0) rfl Tryd.runUnderlying57 rfl Tryd.sizeOf3 rfl) ?_
                  refine TL.r (EvR.load rfl Tryd.isAgg3 (AtB.own (by repeat (first | exact Has.hd | refine Has.tlb ?_ | refine Has.tlc ?_))) (by rfl)) ?_
                  refine TL.p (EvP.isF (EvP.eq rfl rfl) (by omega)) ?_
                  refine TL.p (EvP.move rfl) ?_
                  refine TL.gN rfl rfl rfl ?_
                  refine TL.gN rfl rfl rfl ?_
                  refine TL.gN rfl rfl rfl ?_
                  refine TL.gN rfl rfl rfl ?_
                  refine TL.p (EvP.pickF rfl rfl) ?_
                  refine TL.p (EvP.assign rfl) ?_
                  refine TL.nil ?_
                  refine TX.thenN rfl rfl ?_
                  refine TC.cfalse rfl ?_
                  refine TC.skip ?_
                  refine TX.blkN ?_
                  refine TX.thenN rfl rfl ?_
                  refine TC.seq ?_
                  refine TC.region ?_
                  refine TL.p (EvP.assign rfl) ?_
                  refine TL.nil ?_
                  refine TX.thenN rfl rfl ?_
                  refine TC.ret ?_
                  refine TX.done rfl (Res.one rfl rfl) (fun w hs => Post0.mk hs ?_ (by repeat (first | exact Le.refl _ | exact Le.nil _ | refine Le.hit ?_ | refine Le.hit1 ?_ | refine Le.hit2 ?_ | refine Le.hit3 ?_ | refine Le.hit4 ?_ | refine Le.hit5 ?_ | refine Le.hit6 ?_ | refine Le.hit7 ?_ | refine Le.hit8 ?_ | refine Le.hit9 ?_ | refine Le.hit10 ?_ | refine Le.skip ?_)))
                  show Value.int .i64 _ = Value.int .i64 (cellE c)
                  congr 1
                  unfold cellE
                  repeat' (first | rfl | rw [if_pos (by first | omega | (constructor <;> first | omega | assumption) | (simp_all; done) | (simp_all; omega))] | rw [if_neg (by first | omega | (intro h; simp_all; done) | (intro h; simp_all; omega))])
          · refine TL.p (EvP.pickF rfl rfl) ?_
            refine TL.p (EvP.move rfl) ?_
            refine TL.gY rfl rfl rfl ?_
            refine TL.p (EvP.fa (e := 0) rfl Tryd.runUnderlying57 rfl Tryd.sizeOf3 rfl) ?_
            refine TL.gY rfl rfl rfl ?_
            refine TL.r (EvR.load rfl Tryd.isAgg3 (AtB.own (by repeat (first | exact Has.hd | refine Has.tlb ?_ | refine Has.tlc ?_))) (by rfl)) ?_
            refine TL.gY rfl rfl rfl ?_
            refine TL.dec (EvP.eq rfl rfl) (fun h29 => ?_) (fun h29 => ?_)
            · refine TL.p (EvP.pickF rfl rfl) ?_
              refine TL.p (EvP.assign rfl) ?_
              refine TL.nil ?_
              refine TX.thenN rfl rfl ?_
              refine TC.seq ?_
              refine TC.block ?_
              refine TC.seq ?_
              refine TC.seq ?_
              refine TC.region ?_
              refine TL.p (EvP.fa (e := 0) rfl Tryd.runUnderlying57 rfl Tryd.sizeOf3 rfl) ?_
              refine TL.r (EvR.load rfl Tryd.isAgg3 (AtB.own (by repeat (first | exact Has.hd | refine Has.tlb ?_ | refine Has.tlc ?_))) (by rfl)) ?_
              refine TL.p (EvP.isF (EvP.lt rfl rfl) (by omega)) ?_
              refine TL.p (EvP.move rfl) ?_
              refine TL.gY rfl rfl rfl ?_
              refine TL.p (EvP.fa (e := 0) rfl Tryd.runUnderlying57 rfl Tryd.sizeOf3 rfl) ?_
              refine TL.gY rfl rfl rfl ?_
              refine TL.r (EvR.load rfl Tryd.isAgg3 (AtB.own (by repeat (first | exact Has.hd | refine Has.tlb ?_ | refine Has.tlc ?_))) (by rfl)) ?_
              refine TL.gY rfl rfl rfl ?_
              refine TL.p (EvP.isF (EvP.gt rfl rfl) (by omega)) ?_
              refine TL.p (EvP.pickF rfl rfl) ?_
              refine TL.p (EvP.assign rfl) ?_
              refine TL.nil ?_
              refine TX.thenN rfl rfl ?_
              refine TC.cfalse rfl ?_
              refine TC.seq ?_
              refine TC.region ?_
              refine TL.p (EvP.move rfl) ?_
              refine TL.p (EvP.not rfl) ?_
              refine TL.p (EvP.move rfl) ?_
              refine TL.gY rfl rfl rfl ?_
              refine TL.p (EvP.fa (e := 2) rfl Tryd.runUnderlying57 rfl Tryd.sizeOf9 rfl) ?_
              refine TL.gY rfl rfl rfl ?_
              refine TL.r (EvR.load rfl Tryd.isAgg9 (AtB.own (by repeat (first | exact Has.hd | refine Has.tlb ?_ | refine Has.tlc ?_))) (by rfl)) ?_
              refine TL.gY rfl rfl rfl ?_
              refine TL.dec (EvP.neS rfl rfl) (fun h45 => ?_) (fun h45 => ?_)
              · refine TL.p (EvP.pickT rfl rfl) ?_
                refine TL.p (EvP.assign rfl) ?_
                refine TL.nil ?_
                refine TX.thenN rfl rfl ?_
                refine TC.ctrue rfl ?_
                refine TC.skip ?_
                refine TX.thenN rfl rfl ?_
                refine TC.ctrue rfl ?_
                refine TC.seq ?_
                refine TC.region ?_
                refine TL.p (EvP.assign rfl) ?_
                refine TL.nil ?_
                refine TX.thenN rfl rfl ?_
                refine TC.ret ?_
                refine TX.blkR ?_
                refine TX.thenR ?_
                refine TX.done rfl (Res.one rfl rfl) (fun w hs => Post0.mk hs ?_ (by repeat (first | exact Le.refl _ | exact Le.nil _ | refine Le.hit ?_ | refine Le.hit1 ?_ | refine Le.hit2 ?_ | refine Le.hit3 ?_ | refine Le.hit4 ?_ | refine Le.hit5 ?_ | refine Le.hit6 ?_ | refine Le.hit7 ?_ | refine Le.hit8 ?_ | refine Le.hit9 ?_ | refine Le.hit10 ?_ | refine Le.skip ?_)))
                show Value.int .i64 _ = Value.int .i64 (cellE c)
                congr 1
                unfold cellE
                repeat' (first | rfl | rw [if_pos (by first | omega | (constructor <;> first | omega | assumption) | (simp_all; done) | (simp_all; omega))] | rw [if_neg (by first | omega | (intro h; simp_all; done) | (intro h; simp_all; omega))])
              · refine TL.p (EvP.pickT rfl rfl) ?_
                refine TL.p (EvP.assign rfl) ?_
                refine TL.nil ?_
                refine TX.thenN rfl rfl ?_
                refine TC.cfalse rfl ?_
                refine TC.region ?_
                refine TL.p (EvP.move rfl) ?_
                refine TL.p (EvP.not rfl) ?_
                refine TL.p (EvP.move rfl) ?_
                refine TL.gN rfl rfl rfl ?_
                refine TL.gN rfl rfl rfl ?_
                refine TL.gN rfl rfl rfl ?_
                refine TL.p (EvP.pickF rfl rfl) ?_
                refine TL.p (EvP.assign rfl) ?_
                refine TL.nil ?_
                refine TX.thenN rfl rfl ?_
                refine TC.cfalse rfl ?_
                refine TC.seq ?_
                refine TC.region ?_
                refine TL.p (EvP.fa (e := 0) rfl Tryd.runUnderlying57 rfl Tryd.sizeOf3 rfl) ?_
                refine TL.r (EvR.load rfl Tryd.isAgg3 (AtB.own (by repeat (first | exact Has.hd | refine Has.tlb ?_ | refine Has.tlc ?_))) (by rfl)) ?_
                refine TL.p (EvP.isF (EvP.eq rfl rfl) (by omega)) ?_
                refine TL.p (EvP.move rfl) ?_
                refine TL.gN rfl rfl rfl ?_
                refine TL.gN rfl rfl rfl ?_
                refine TL.gN rfl rfl rfl ?_
                refine TL.gN rfl rfl rfl ?_
                refine TL.gU rfl rfl ?_
                refine TL.gU rfl rfl ?_
                refine TL.gU rfl rfl ?_
                refine TL.gN rfl rfl rfl ?_
                refine TL.p (EvP.pickF rfl rfl) ?_
                refine TL.p (EvP.assign rfl) ?_
                refine TL.nil ?_
                refine TX.thenN rfl rfl ?_
                refine TC.cfalse rfl ?_
                refine TC.seq ?_
                refine TC.region ?_
                refine TL.p (EvP.fa (e := 0) rfl Tryd.runUnderlying57 rfl Tryd.sizeOf3 rfl) ?_
                refine TL.r (EvR.load rfl Tryd.isAgg3 (AtB.own (by repeat (first | exact Has.hd | refine Has.tlb ?_ | refine Has.tlc ?_))) (by rfl)) ?_
                refine TL.p (EvP.isF (EvP.eq rfl rfl) (by omega)) ?_
                refine TL.p (EvP.move rfl) ?_
                refine TL.gN rfl rfl rfl ?_
                refine TL.gN rfl rfl rfl ?_
                refine TL.gN rfl rfl rfl ?_
                refine TL.gN rfl rfl rfl ?_
                refine TL.gU rfl rfl ?_
                refine TL.gU rfl rfl ?_
                refine TL.gU rfl rfl ?_
                refine TL.gN rfl rfl rfl ?_
                refine TL.p (EvP.pickF rfl rfl) ?_
                refine TL.p (EvP.assign rfl) ?_
                refine TL.nil ?_
                refine TX.thenN rfl rfl ?_
                refine TC.cfalse rfl ?_
                refine TC.seq ?_
                refine TC.region ?_
                refine TL.p (EvP.fa (e := 0) rfl Tryd.runUnderlying57 rfl Tryd.sizeOf3 rfl) ?_
                refine TL.r (EvR.load rfl Tryd.isAgg3 (AtB.own (by repeat (first | exact Has.hd | refine Has.tlb ?_ | refine Has.tlc ?_))) (by rfl)) ?_
                refine TL.p (EvP.isT (EvP.eq rfl rfl) (by omega)) ?_
                refine TL.p (EvP.move rfl) ?_
                refine TL.gY rfl rfl rfl ?_
                refine TL.p (EvP.fa (e := 1) rfl Tryd.runUnderlying57 rfl Tryd.sizeOf2 rfl) ?_
                refine TL.gY rfl rfl rfl ?_
                refine TL.r (EvR.load rfl Tryd.isAgg2 (AtB.own (by repeat (first | exact Has.hd | refine Has.tlb ?_ | refine Has.tlc ?_))) (by rfl)) ?_
                refine TL.gY rfl rfl rfl ?_
                refine TL.dec (EvP.lt rfl rfl) (fun h89 => ?_) (fun h89 => ?_)
                · refine TL.gY rfl rfl rfl ?_
                  refine TL.p (EvP.move rfl) ?_
                  refine TL.gN rfl rfl rfl ?_
                  refine TL.gN rfl rfl rfl ?_
                  refine TL.gN rfl rfl rfl ?_
                  refine TL.gY rfl rfl rfl ?_
                  refine TL.p (EvP.pickT rfl rfl) ?_
                  refine TL.p (EvP.pickT rfl rfl) ?_
                  refine TL.p (EvP.assign rfl) ?_
                  refine TL.nil ?_
                  refine TX.thenN rfl rfl ?_
                  refine TC.ctrue rfl ?_
                  refine TC.seq ?_
                  refine TC.region ?_
                  refine TL.p (EvP.assign rfl) ?_
                  refine TL.nil ?_
                  refine TX.thenN rfl rfl ?_
                  refine TC.ret ?_
                  refine TX.blkR ?_
                  refine TX.thenR ?_
                  refine TX.done rfl (Res.one rfl rfl) (fun w hs => Post0.mk hs ?_ (by repeat (first | exact Le.refl _ | exact Le.nil _ | refine Le.hit ?_ | refine Le.hit1 ?_ | refine Le.hit2 ?_ | refine Le.hit3 ?_ | refine Le.hit4 ?_ | refine Le.hit5 ?_ | refine Le.hit6 ?_ | refine Le.hit7 ?_ | refine Le.hit8 ?_ | refine Le.hit9 ?_ | refine Le.hit10 ?_ | refine Le.skip ?_)))
                  show Value.int .i64 _ = Value.int .i64 (cellE c)
                  congr 1
                  unfold cellE
                  repeat' (first | rfl | rw [if_pos (by first | omega | (constructor <;> first | omega | assumption) | (simp_all; done) | (simp_all; omega))] | rw [if_neg (by first | omega | (intro h; simp_all; done) | (intro h; simp_all; omega))])
                · refine TL.gY rfl rfl rfl ?_
                  refine TL.p (EvP.move rfl) ?_
                  refine TL.gY rfl rfl rfl ?_
                  refine TL.p (EvP.fa (e := 1) rfl Tryd.runUnderlying57 rfl Tryd.sizeOf2 rfl) ?_
                  refine TL.gY rfl rfl rfl ?_
                  refine TL.r (EvR.load rfl Tryd.isAgg2 (AtB.own (by repeat (first | exact Has.hd | refine Has.tlb ?_ | refine Has.tlc ?_))) (by rfl)) ?_
                  refine TL.gY rfl rfl rfl ?_
                  refine TL.dec (EvP.gt rfl rfl) (fun h93 => ?_) (fun h93 => ?_)
                  · refine TL.gY rfl rfl rfl ?_
                    refine TL.p (EvP.pickF rfl rfl) ?_
                    refine TL.p (EvP.pickT rfl rfl) ?_
                    refine TL.p (EvP.assign rfl) ?_
                    refine TL.nil ?_
                    refine TX.thenN rfl rfl ?_
                    refine TC.ctrue rfl ?_
                    refine TC.seq ?_
                    refine TC.region ?_
                    refine TL.p (EvP.assign rfl) ?_
                    refine TL.nil ?_
                    refine TX.thenN rfl rfl ?_
                    refine TC.ret ?_
                    refine TX.blkR ?_
                    refine TX.thenR ?_
                    refine TX.done rfl (Res.one rfl rfl) (fun w hs => Post0.mk hs ?_ (by repeat (first | exact Le.refl _ | exact Le.nil _ | refine Le.hit ?_ | refine Le.hit1 ?_ | refine Le.hit2 ?_ | refine Le.hit3 ?_ | refine Le.hit4 ?_ | refine Le.hit5 ?_ | refine Le.hit6 ?_ | refine Le.hit7 ?_ | refine Le.hit8 ?_ | refine Le.hit9 ?_ | refine Le.hit10 ?_ | refine Le.skip ?_)))
                    show Value.int .i64 _ = Value.int .i64 (cellE c)
                    congr 1
                    unfold cellE
                    repeat' (first | rfl | rw [if_pos (by first | omega | (constructor <;> first | omega | assumption) | (simp_all; done) | (simp_all; omega))] | rw [if_neg (by first | omega | (intro h; simp_all; done) | (intro h; simp_all; omega))])
                  · refine TL.gY rfl rfl rfl ?_
                    refine TL.p (EvP.pickF rfl rfl) ?_
                    refine TL.p (EvP.pickT rfl rfl) ?_
                    refine TL.p (EvP.assign rfl) ?_
                    refine TL.nil ?_
                    refine TX.thenN rfl rfl ?_
                    refine TC.cfalse rfl ?_
                    refine TC.seq ?_
                    refine TC.region ?_
                    refine TL.p (EvP.fa (e := 0) rfl Tryd.runUnderlying57 rfl Tryd.sizeOf3 rfl) ?_
                    refine TL.r (EvR.load rfl Tryd.isAgg3 (AtB.own (by repeat (first | exact Has.hd | refine Has.tlb ?_ | refine Has.tlc ?_))) (by rfl)) ?_
                    refine TL.p (EvP.isF (EvP.eq rfl rfl) (by omega)) ?_
                    refine TL.p (EvP.move rfl) ?_
                    refine TL.gN rfl rfl rfl ?_
                    refine TL.gN rfl rfl rfl ?_
                    refine TL.gN rfl rfl rfl ?_
                    refine TL.gN rfl rfl rfl ?_
                    refine TL.gN rfl rfl rfl ?_
                    refine TL.gU rfl rfl ?_
                    refine TL.gU rfl rfl ?_
                    refine TL.gU rfl rfl ?_
                    refine TL.gU rfl rfl ?_
                    refine TL.gN rfl rfl rfl ?_
                    refine TL.p (EvP.pickF rfl rfl) ?_
                    refine TL.p (EvP.assign rfl) ?_
                    refine TL.nil ?_
                    refine TX.thenN rfl rfl ?_
                    refine TC.cfalse rfl ?_
                    refine TC.seq ?_
                    refine TC.region ?_
                    refine TL.p (EvP.fa (e := 0) rfl Tryd.runUnderlying57 rfl Tryd.sizeOf3 rfl) ?_
                    refine TL.r (EvR.load rfl Tryd.isAgg3 (AtB.own (by repeat (first | exact Has.hd | refine Has.tlb ?_ | refine Has.tlc ?_))) (by rfl)) ?_
                    refine TL.p (EvP.isF (EvP.eq rfl rfl) (by omega)) ?_
                    refine TL.p (EvP.move rfl) ?_
                    refine TL.gN rfl rfl rfl ?_
                    refine TL.gN rfl rfl rfl ?_
                    refine TL.gN rfl rfl rfl ?_
                    refine TL.gN rfl rfl rfl ?_
                    refine TL.p (EvP.pickF rfl rfl) ?_
                    refine TL.p (EvP.assign rfl) ?_
                    refine TL.nil ?_
                    refine TX.thenN rfl rfl ?_
                    refine TC.cfalse rfl ?_
                    refine TC.skip ?_
                    refine TX.blkN ?_
                    refine TX.thenN rfl rfl ?_
                    refine TC.seq ?_
                    refine TC.region ?_
                    refine TL.p (EvP.assign rfl) ?_
                    refine TL.nil ?_
                    refine TX.thenN rfl rfl ?_
                    refine TC.ret ?_
                    refine TX.done rfl (Res.one rfl rfl) (fun w hs => Post0.mk hs ?_ (by repeat (first | exact Le.refl _ | exact Le.nil _ | refine Le.hit ?_ | refine Le.hit1 ?_ | refine Le.hit2 ?_ | refine Le.hit3 ?_ | refine Le.hit4 ?_ | refine Le.hit5 ?_ | refine Le.hit6 ?_ | refine Le.hit7 ?_ | refine Le.hit8 ?_ | refine Le.hit9 ?_ | refine Le.hit10 ?_ | refine Le.skip ?_)))
                    show Value.int .i64 _ = Value.int .i64 (cellE c)
                    congr 1
                    unfold cellE
                    repeat' (first | rfl | rw [if_pos (by first | omega | (constructor <;> first | omega | assumption) | (simp_all; done) | (simp_all; omega))] | rw [if_neg (by first | omega | (intro h; simp_all; done) | (intro h; simp_all; omega))])
            · refine TL.p (EvP.pickF rfl rfl) ?_
              refine TL.p (EvP.assign rfl) ?_
              refine TL.nil ?_
              refine TX.thenN rfl rfl ?_
              refine TC.seq ?_
              refine TC.block ?_
              refine TC.seq ?_
              refine TC.seq ?_
              refine TC.region ?_
              refine TL.p (EvP.fa (e := 0) rfl Tryd.runUnderlying57 rfl Tryd.sizeOf3 rfl) ?_
              refine TL.r (EvR.load rfl Tryd.isAgg3 (AtB.own (by repeat (first | exact Has.hd | refine Has.tlb ?_ | refine Has.tlc ?_))) (by rfl)) ?_
              refine TL.dec (EvP.lt rfl rfl) (fun h34 => ?_) (fun h34 => ?_)
              · refine TL.p (EvP.move rfl) ?_
                refine TL.gN rfl rfl rfl ?_
                refine TL.gN rfl rfl rfl ?_
                refine TL.gN rfl rfl rfl ?_
                refine TL.p (EvP.pickT rfl rfl) ?_
                refine TL.p (EvP.assign rfl) ?_
                refine TL.nil ?_
                refine TX.thenN rfl rfl ?_
                refine TC.ctrue rfl ?_
                refine TC.skip ?_
                refine TX.thenN rfl rfl ?_
                refine TC.ctrue rfl ?_
                refine TC.seq ?_
                refine TC.region ?_
                refine TL.p (EvP.assign rfl) ?_
                refine TL.nil ?_
                refine TX.thenN rfl rfl ?_
                refine TC.ret ?_
                refine TX.blkR ?_
                refine TX.thenR ?_
                refine TX.done rfl (Res.one rfl rfl) (fun w hs => Post0.mk hs ?_ (by repeat (first | exact Le.refl _ | exact Le.nil _ | refine Le.hit ?_ | refine Le.hit1 ?_ | refine Le.hit2 ?_ | refine Le.hit3 ?_ | refine Le.hit4 ?_ | refine Le.hit5 ?_ | refine Le.hit6 ?_ | refine Le.hit7 ?_ | refine Le.hit8 ?_ | refine Le.hit9 ?_ | refine Le.hit10 ?_ | refine Le.skip ?_)))
                show Value.int .i64 _ = Value.int .i64 (cellE c)
                congr 1
                unfold cellE
                repeat' (first | rfl | rw [if_pos (by first | omega | (constructor <;> first | omega | assumption) | (simp_all; done) | (simp_all; omega))] | rw [if_neg (by first | omega | (intro h; simp_all; done) | (intro h; simp_all; omega))])
              · refine TL.p (EvP.move rfl) ?_
                refine TL.gY rfl rfl rfl ?_
                refine TL.p (EvP.fa (e := 0) rfl Tryd.runUnderlying57 rfl Tryd.sizeOf3 rfl) ?_
                refine TL.gY rfl rfl rfl ?_
                refine TL.r (EvR.load rfl Tryd.isAgg3 (AtB.own (by repeat (first | exact Has.hd | refine Has.tlb ?_ | refine Has.tlc ?_))) (by rfl)) ?_
                refine TL.gY rfl rfl rfl ?_
                refine TL.dec (EvP.gt rfl rfl) (fun h38 => ?_) (fun h38 => ?_)
                · refine TL.p (EvP.pickF rfl rfl) ?_
                  refine TL.p (EvP.assign rfl) ?_
                  refine TL.nil ?_
                  refine TX.thenN rfl rfl ?_
                  refine TC.ctrue rfl ?_
                  refine TC.skip ?_
                  refine TX.thenN rfl rfl ?_
                  refine TC.ctrue rfl ?_
                  refine TC.seq ?_
                  refine TC.region ?_
                  refine TL.p (EvP.assign rfl) ?_
                  refine TL.nil ?_
                  refine TX.thenN rfl rfl ?_
                  refine TC.ret ?_
                  refine TX.blkR ?_
                  refine TX.thenR ?_
                  refine TX.done rfl (Res.one rfl rfl) (fun w hs => Post0.mk hs ?_ (by repeat (first | exact Le.refl _ | exact Le.nil _ | refine Le.hit ?_ | refine Le.hit1 ?_ | refine Le.hit2 ?_ | refine Le.hit3 ?_ | refine Le.hit4 ?_ | refine Le.hit5 ?_ | refine Le.hit6 ?_ | refine Le.hit7 ?_ | refine Le.hit8 ?_ | refine Le.hit9 ?_ | refine Le.hit10 ?_ | refine Le.skip ?_)))
                  show Value.int .i64 _ = Value.int .i64 (cellE c)
                  congr 1
                  unfold cellE
                  repeat' (first | rfl | rw [if_pos (by first | omega | (constructor <;> first | omega | assumption) | (simp_all; done) | (simp_all; omega))] | rw [if_neg (by first | omega | (intro h; simp_all; done) | (intro h; simp_all; omega))])
                · refine TL.p (EvP.pickF rfl rfl) ?_
                  refine TL.p (EvP.assign rfl) ?_
                  refine TL.nil ?_
                  refine TX.thenN rfl rfl ?_
                  refine TC.cfalse rfl ?_
                  refine TC.seq ?_
                  refine TC.region ?_
                  refine TL.p (EvP.move rfl) ?_
                  refine TL.p (EvP.not rfl) ?_
                  refine TL.p (EvP.move rfl) ?_
                  refine TL.gY rfl rfl rfl ?_
                  refine TL.p (EvP.fa (e := 2) rfl Tryd.runUnderlying57 rfl Tryd.sizeOf9 rfl) ?_
                  refine TL.gY rfl rfl rfl ?_
                  refine TL.r (EvR.load rfl Tryd.isAgg9 (AtB.own (by repeat (first | exact Has.hd | refine Has.tlb ?_ | refine Has.tlc ?_))) (by rfl)) ?_
                  refine TL.gY rfl rfl rfl ?_
                  refine TL.dec (EvP.neS rfl rfl) (fun h45 => ?_) (fun h45 => ?_)
                  · refine TL.p (EvP.pickT rfl rfl) ?_
                    refine TL.p (EvP.assign rfl) ?_
                    refine TL.nil ?_
                    refine TX.thenN rfl rfl ?_
                    refine TC.ctrue rfl ?_
                    refine TC.skip ?_
                    refine TX.thenN rfl rfl ?_
                    refine TC.ctrue rfl ?_
                    refine TC.seq ?_
                    refine TC.region ?_
                    refine TL.p (EvP.assign rfl) ?_
                    refine TL.nil ?_
                    refine TX.thenN rfl rfl ?_
                    refine TC.ret ?_
                    refine TX.blkR ?_
                    refine TX.thenR ?_
                    refine TX.done rfl (Res.one rfl rfl) (fun w hs => Post0.mk hs ?_ (by repeat (first | exact Le.refl _ | exact Le.nil _ | refine Le.hit ?_ | refine Le.hit1 ?_ | refine Le.hit2 ?_ | refine Le.hit3 ?_ | refine Le.hit4 ?_ | refine Le.hit5 ?_ | refine Le.hit6 ?_ | refine Le.hit7 ?_ | refine Le.hit8 ?_ | refine Le.hit9 ?_ | refine Le.hit10 ?_ | refine Le.skip ?_)))
                    show Value.int .i64 _ = Value.int .i64 (cellE c)
                    congr 1
                    unfold cellE
                    repeat' (first | rfl | rw [if_pos (by first | omega | (constructor <;> first | omega | assumption) | (simp_all; done) | (simp_all; omega))] | rw [if_neg (by first | omega | (intro h; simp_all; done) | (intro h; simp_all; omega))])
                  · refine TL.p (EvP.pickT rfl rfl) ?_
                    refine TL.p (EvP.assign rfl) ?_
                    refine TL.nil ?_
                    refine TX.thenN rfl rfl ?_
                    refine TC.cfalse rfl ?_
                    refine TC.region ?_
                    refine TL.p (EvP.move rfl) ?_
                    refine TL.p (EvP.not rfl) ?_
                    refine TL.p (EvP.move rfl) ?_
                    refine TL.gY rfl rfl rfl ?_
                    refine TL.p (EvP.fa (e := 1) rfl Tryd.runUnderlying57 rfl Tryd.sizeOf2 rfl) ?_
                    refine TL.gY rfl rfl rfl ?_
                    refine TL.r (EvR.load rfl Tryd.isAgg2 (AtB.own (by repeat (first | exact Has.hd | refine Has.tlb ?_ | refine Has.tlc ?_))) (by rfl)) ?_
                    refine TL.gY rfl rfl rfl ?_
                    refine TL.dec (EvP.ne rfl rfl) (fun h52 => ?_) (fun h52 => ?_)
                    · refine TL.p (EvP.pickT rfl rfl) ?_
                      refine TL.p (EvP.assign rfl) ?_
                      refine TL.nil ?_
                      refine TX.thenN rfl rfl ?_
                      refine TC.ctrue rfl ?_
                      refine TC.seq ?_
                      refine TC.region ?_
                      refine TL.p (EvP.assign rfl) ?_
                      refine TL.nil ?_
                      refine TX.thenN rfl rfl ?_
                      refine TC.ret ?_
                      refine TX.blkR ?_
                      refine TX.thenR ?_
                      refine TX.done rfl (Res.one rfl rfl) (fun w hs => Post0.mk hs ?_ (by repeat (first | exact Le.refl _ | exact Le.nil _ | refine Le.hit ?_ | refine Le.hit1 ?_ | refine Le.hit2 ?_ | refine Le.hit3 ?_ | refine Le.hit4 ?_ | refine Le.hit5 ?_ | refine Le.hit6 ?_ | refine Le.hit7 ?_ | refine Le.hit8 ?_ | refine Le.hit9 ?_ | refine Le.hit10 ?_ | refine Le.skip ?_)))
                      show Value.int .i64 _ = Value.int .i64 (cellE c)
                      congr 1
                      unfold cellE
                      repeat' (first | rfl | rw [if_pos (by first | omega | (constructor <;> first | omega | assumption) | (simp_all; done) | (simp_all; omega))] | rw [if_neg (by first | omega | (intro h; simp_all; done) | (intro h; simp_all; omega))])
                    · refine TL.p (EvP.pickT rfl rfl) ?_
                      refine TL.p (EvP.assign rfl) ?_
                      refine TL.nil ?_
                      refine TX.thenN rfl rfl ?_
                      refine TC.cfalse rfl ?_
                      refine TC.seq ?_
                      refine TC.region ?_
                      refine TL.p (EvP.fa (e := 0) rfl Tryd.runUnderlying57 rfl Tryd.sizeOf3 rfl) ?_
                      refine TL.r (EvR.load rfl Tryd.isAgg3 (AtB.own (by repeat (first | exact Has.hd | refine Has.tlb ?_ | refine Has.tlc ?_))) (by rfl)) ?_
                      refine TL.p (EvP.isF (EvP.eq rfl rfl) (by omega)) ?_
                      refine TL.p (EvP.move rfl) ?_
                      refine TL.gN rfl rfl rfl ?_
                      refine TL.gN rfl rfl rfl ?_
                      refine TL.gN rfl rfl rfl ?_
                      refine TL.gN rfl rfl rfl ?_
                      refine TL.gU rfl rfl ?_
                      refine TL.gU rfl rfl ?_
                      refine TL.gU rfl rfl ?_
                      refine TL.gN rfl rfl rfl ?_
                      refine TL.p (EvP.pickF rfl rfl) ?_
                      refine TL.p (EvP.assign rfl) ?_
                      refine TL.nil ?_
                      refine TX.thenN rfl rfl ?_
                      refine TC.cfalse rfl ?_
                      refine TC.seq ?_
                      refine TC.region ?_
                      refine TL.p (EvP.fa (e := 0) rfl Tryd.runUnderlying57 rfl Tryd.sizeOf3 rfl) ?_
                      refine TL.r (EvR.load rfl Tryd.isAgg3 (AtB.own (by repeat (first | exact Has.hd | refine Has.tlb ?_ | refine Has.tlc ?_))) (by rfl)) ?_
                      refine TL.p (EvP.isF (EvP.eq rfl rfl) (by omega)) ?_
                      refine TL.p (EvP.move rfl) ?_
                      refine TL.gN rfl rfl rfl ?_
                      refine TL.gN rfl rfl rfl ?_
                      refine TL.gN rfl rfl rfl ?_
                      refine TL.gN rfl rfl rfl ?_
                      refine TL.gU rfl rfl ?_
                      refine TL.gU rfl rfl ?_
                      refine TL.gU rfl rfl ?_
                      refine TL.gN rfl rfl rfl ?_
                      refine TL.p (EvP.pickF rfl rfl) ?_
                      refine TL.p (EvP.assign rfl) ?_
                      refine TL.nil ?_
                      refine TX.thenN rfl rfl ?_
                      refine TC.cfalse rfl ?_
                      refine TC.seq ?_
                      refine TC.region ?_
                      refine TL.p (EvP.fa (e := 0) rfl Tryd.runUnderlying57 rfl Tryd.sizeOf3 rfl) ?_
                      refine TL.r (EvR.load rfl Tryd.isAgg3 (AtB.own (by repeat (first | exact Has.hd | refine Has.tlb ?_ | refine Has.tlc ?_))) (by rfl)) ?_
                      refine TL.p (EvP.isF (EvP.eq rfl rfl) (by omega)) ?_
                      refine TL.p (EvP.move rfl) ?_
                      refine TL.gN rfl rfl rfl ?_
                      refine TL.gN rfl rfl rfl ?_
                      refine TL.gN rfl rfl rfl ?_
                      refine TL.gN rfl rfl rfl ?_
                      refine TL.gU rfl rfl ?_
                      refine TL.gU rfl rfl ?_
                      refine TL.gU rfl rfl ?_
                      refine TL.gN rfl rfl rfl ?_
                      refine TL.p (EvP.pickF rfl rfl) ?_
                      refine TL.p (EvP.assign rfl) ?_
                      refine TL.nil ?_
                      refine TX.thenN rfl rfl ?_
                      refine TC.cfalse rfl ?_
                      refine TC.seq ?_
                      refine TC.region ?_
                      refine TL.p (EvP.fa (e := 0) rfl Tryd.runUnderlying57 rfl Tryd.sizeOf3 rfl) ?_
                      refine TL.r (EvR.load rfl Tryd.isAgg3 (AtB.own (by repeat (first | exact Has.hd | refine Has.tlb ?_ | refine Has.tlc ?_))) (by rfl)) ?_
                      refine TL.p (EvP.isF (EvP.eq rfl rfl) (by omega)) ?_
                      refine TL.p (EvP.move rfl) ?_
                      refine TL.gN rfl rfl rfl ?_
                      refine TL.gN rfl rfl rfl ?_
                      refine TL.gN rfl rfl rfl ?_
                      refine TL.gN rfl rfl rfl ?_
                      refine TL.gN rfl rfl rfl ?_
                      refine TL.gU rfl rfl ?_
                      refine TL.gU rfl rfl ?_
                      refine TL.gU rfl rfl ?_
                      refine TL.gU rfl rfl ?_
                      refine TL.gN rfl rfl rfl ?_
                      refine TL.p (EvP.pickF rfl rfl) ?_
                      refine TL.p (EvP.assign rfl) ?_
                      refine TL.nil ?_
                      refine TX.thenN rfl rfl ?_
                      refine TC.cfalse rfl ?_
                      refine TC.seq ?_
                      refine TC.region ?_
                      refine TL.p (EvP.fa (e := 0) rfl Tryd.runUnderlying57 rfl Tryd.sizeOf3 rfl) ?_
                      refine TL.r (EvR.load rfl Tryd.isAgg3 (AtB.own (by repeat (first | exact Has.hd | refine Has.tlb ?_ | refine Has.tlc ?_))) (by rfl)) ?_
                      refine TL.p (EvP.isF (EvP.eq rfl rfl) (by omega)) ?_
                      refine TL.p (EvP.move rfl) ?_
                      refine TL.gN rfl rfl rfl ?_
                      refine TL.gN rfl rfl rfl ?_
                      refine TL.gN rfl rfl rfl ?_
                      refine TL.gN rfl rfl rfl ?_
                      refine TL.p (EvP.pickF rfl rfl) ?_
                      refine TL.p (EvP.assign rfl) ?_
                      refine TL.nil ?_
                      refine TX.thenN rfl rfl ?_
                      refine TC.cfalse rfl ?_
                      refine TC.skip ?_
                      refine TX.blkN ?_
                      refine TX.thenN rfl rfl ?_
                      refine TC.seq ?_
                      refine TC.region ?_
                      refine TL.p (EvP.assign rfl) ?_
                      refine TL.nil ?_
                      refine TX.thenN rfl rfl ?_
                      refine TC.ret ?_
                      refine TX.done rfl (Res.one rfl rfl) (fun w hs => Post0.mk hs ?_ (by repeat (first | exact Le.refl _ | exact Le.nil _ | refine Le.hit ?_ | refine Le.hit1 ?_ | refine Le.hit2 ?_ | refine Le.hit3 ?_ | refine Le.hit4 ?_ | refine Le.hit5 ?_ | refine Le.hit6 ?_ | refine Le.hit7 ?_ | refine Le.hit8 ?_ | refine Le.hit9 ?_ | refine Le.hit10 ?_ | refine Le.skip ?_)))
                      show Value.int .i64 _ = Value.int .i64 (cellE c)
                      congr 1
                      unfold cellE
                      repeat' (first | rfl | rw [if_pos (by first | omega | (constructor <;> first | omega | assumption) | (simp_all; done) | (simp_all; omega))] | rw [if_neg (by first | omega | (intro h; simp_all; done) | (intro h; simp_all; omega))])

theorem rcell_spec {w0 w : World} {R : List Chunk} (c : Cl) (hst : St w0 w R) : Calls Tryd.prog 48 #[c.v] w (Post0 w0 R fun v => v = .int .i64 (cellE c)) := by
  refine calls_of (args := [_]) Tryd.func48 rfl Tryd.ntmps48 hst ?_
  refine TC.seq ?_
  refine TC.region ?_
  refine TL.box rfl rfl (fun b1 => ?_)
  refine TL.p (EvP.assign rfl) ?_
  refine TL.nil ?_
  refine TX.thenN rfl rfl ?_
  refine TC.seq ?_
  refine TC.seq ?_
  refine TC.region ?_
  refine TL.p (EvP.fa (e := 0) rfl Tryd.runUnderlying57 rfl Tryd.sizeOf3 rfl) ?_
  refine TL.r (EvR.load rfl Tryd.isAgg3 (AtB.own (by repeat (first | exact Has.hd | refine Has.tlb ?_ | refine Has.tlc ?_))) (by rfl)) ?_
  refine TL.dec (EvP.lt rfl rfl) (fun h6 => ?_) (fun h6 => ?_)
  · refine TL.p (EvP.move rfl) ?_
    refine TL.gN rfl rfl rfl ?_
    refine TL.gN rfl rfl rfl ?_
    refine TL.gN rfl rfl rfl ?_
    refine TL.p (EvP.pickT rfl rfl) ?_
    refine TL.nil ?_
    refine TX.thenN rfl rfl ?_
    refine TC.ctrue rfl ?_
    refine TC.seq ?_
    refine TC.region ?_
    refine TL.p (EvP.assign rfl) ?_
    refine TL.nil ?_
    refine TX.thenN rfl rfl ?_
    refine TC.ret ?_
    refine TX.thenR ?_
    refine TX.done rfl (Res.one rfl rfl) (fun w hs => Post0.mk hs ?_ (by repeat (first | exact Le.refl _ | exact Le.nil _ | refine Le.hit ?_ | refine Le.hit1 ?_ | refine Le.hit2 ?_ | refine Le.hit3 ?_ | refine Le.hit4 ?_ | refine Le.hit5 ?_ | refine Le.hit6 ?_ | refine Le.hit7 ?_ | refine Le.hit8 ?_ | refine Le.hit9 ?_ | refine Le.hit10 ?_ | refine Le.skip ?_)))
    show Value.int .i64 _ = Value.int .i64 (cellE c)
    congr 1
    unfold cellE
    repeat' (first | rfl | rw [if_pos (by first | omega | (constructor <;> first | omega | assumption) | (simp_all; done) | (simp_all; omega))] | rw [if_neg (by first | omega | (intro h; simp_all; done) | (intro h; simp_all; omega))])
  · refine TL.p (EvP.move rfl) ?_
    refine TL.gY rfl rfl rfl ?_
    refine TL.p (EvP.fa (e := 0) rfl Tryd.runUnderlying57 rfl Tryd.sizeOf3 rfl) ?_
    refine TL.gY rfl rfl rfl ?_
    refine TL.r (EvR.load rfl Tryd.isAgg3 (AtB.own (by repeat (first | exact Has.hd | refine Has.tlb ?_ | refine Has.tlc ?_))) (by rfl)) ?_
    refine TL.gY rfl rfl rfl ?_
    refine TL.dec (EvP.gt rfl rfl) (fun h10 => ?_) (fun h10 => ?_)
    · refine TL.p (EvP.pickF rfl rfl) ?_
      refine TL.nil ?_
      refine TX.thenN rfl rfl ?_
      refine TC.ctrue rfl ?_
      refine TC.seq ?_
      refine TC.region ?_
      refine TL.p (EvP.assign rfl) ?_
      refine TL.nil ?_
      refine TX.thenN rfl rfl ?_
      refine TC.ret ?_
      refine TX.thenR ?_
      refine TX.done rfl (Res.one rfl rfl) (fun w hs => Post0.mk hs ?_ (by repeat (first | exact Le.refl _ | exact Le.nil _ | refine Le.hit ?_ | refine Le.hit1 ?_ | refine Le.hit2 ?_ | refine Le.hit3 ?_ | refine Le.hit4 ?_ | refine Le.hit5 ?_ | refine Le.hit6 ?_ | refine Le.hit7 ?_ | refine Le.hit8 ?_ | refine Le.hit9 ?_ | refine Le.hit10 ?_ | refine Le.skip ?_)))
      show Value.int .i64 _ = Value.int .i64 (cellE c)
      congr 1
      unfold cellE
      repeat' (first | rfl | rw [if_pos (by first | omega | (constructor <;> first | omega | assumption) | (simp_all; done) | (simp_all; omega))] | rw [if_neg (by first | omega | (intro h; simp_all; done) | (intro h; simp_all; omega))])
    · refine TL.p (EvP.pickF rfl rfl) ?_
      refine TL.nil ?_
      refine TX.thenN rfl rfl ?_
      refine TC.cfalse rfl ?_
      refine TC.skip ?_
      refine TX.thenN rfl rfl ?_
      refine TC.seq ?_
      refine TC.region ?_
      refine TL.p (EvP.fa (e := 0) rfl Tryd.runUnderlying57 rfl Tryd.sizeOf3 rfl) ?_
      refine TL.r (EvR.load rfl Tryd.isAgg3 (AtB.own (by repeat (first | exact Has.hd | refine Has.tlb ?_ | refine Has.tlc ?_))) (by rfl)) ?_
      refine TL.dec (EvP.eq rfl rfl) (fun h14 => ?_) (fun h14 => ?_)
      · refine TL.p (EvP.move rfl) ?_
        refine TL.gN rfl rfl rfl ?_
        refine TL.gN rfl rfl rfl ?_
        refine TL.gN rfl rfl rfl ?_
        refine TL.p (EvP.pickT rfl rfl) ?_
        refine TL.p (EvP.assign rfl) ?_
        refine TL.nil ?_
        refine TX.thenN rfl rfl ?_
        refine TC.seq ?_
        refine TC.seq ?_
        refine TC.region ?_
        refine TL.p (EvP.move rfl) ?_
        refine TL.p (EvP.not rfl) ?_
        refine TL.p (EvP.move rfl) ?_
        refine TL.gN rfl rfl rfl ?_
        refine TL.gN rfl rfl rfl ?_
        refine TL.gN rfl rfl rfl ?_
        refine TL.p (EvP.pickF rfl rfl) ?_
        refine TL.nil ?_
        refine TX.thenN rfl rfl ?_
        refine TC.cfalse rfl ?_
        refine TC.skip ?_
        refine TX.thenN rfl rfl ?_
        refine TC.seq ?_
        refine TC.seq ?_
        refine TC.region ?_
        refine TL.p (EvP.move rfl) ?_
        refine TL.p (EvP.move rfl) ?_
        refine TL.gN rfl rfl rfl ?_
        refine TL.gN rfl rfl rfl ?_
        refine TL.gN rfl rfl rfl ?_
        refine TL.p (EvP.pickT rfl rfl) ?_
        refine TL.p (EvP.move rfl) ?_
        refine TL.gN rfl rfl rfl ?_
        refine TL.gN rfl rfl rfl ?_
        refine TL.gN rfl rfl rfl ?_
        refine TL.p (EvP.pickT rfl rfl) ?_
        refine TL.p (EvP.move rfl) ?_
        refine TL.gY rfl rfl rfl ?_
        refine TL.p (EvP.fa (e := 1) rfl Tryd.runUnderlying57 rfl Tryd.sizeOf2 rfl) ?_
        refine TL.gY rfl rfl rfl ?_
        refine TL.r (EvR.load rfl Tryd.isAgg2 (AtB.own (by repeat (first | exact Has.hd | refine Has.tlb ?_ | refine Has.tlc ?_))) (by rfl)) ?_
        refine TL.gY rfl rfl rfl ?_
        refine TL.dec (EvP.ne rfl rfl) (fun h41 => ?_) (fun h41 => ?_)
        · refine TL.p (EvP.pickT rfl rfl) ?_
          refine TL.nil ?_
          refine TX.thenN rfl rfl ?_
          refine TC.ctrue rfl ?_
          refine TC.seq ?_
          refine TC.region ?_
          refine TL.p (EvP.assign rfl) ?_
          refine TL.nil ?_
          refine TX.thenN rfl rfl ?_
          refine TC.ret ?_
          refine TX.thenR ?_
          refine TX.done rfl (Res.one rfl rfl) (fun w hs => Post0.mk hs ?_ (by repeat (first | exact Le.refl _ | exact Le.nil _ | refine Le.hit ?_ | refine Le.hit1 ?_ | refine Le.hit2 ?_ | refine Le.hit3 ?_ | refine Le.hit4 ?_ | refine Le.hit5 ?_ | refine Le.hit6 ?_ | refine Le.hit7 ?_ | refine Le.hit8 ?_ | refine Le.hit9 ?_ | refine Le.hit10 ?_ | refine Le.skip ?_)))
          show Value.int .i64 _ = Value.int .i64 (cellE c)
          congr 1
          unfold cellE
          repeat' (first | rfl | rw [if_pos (by first | omega | (constructor <;> first | omega | assumption) | (simp_all; done) | (simp_all; omega))] | rw [if_neg (by first | omega | (intro h; simp_all; done) | (intro h; simp_all; omega))])
        · refine TL.p (EvP.pickT rfl rfl) ?_
          refine TL.nil ?_
          refine TX.thenN rfl rfl ?_
          refine TC.cfalse rfl ?_
          refine TC.skip ?_
          refine TX.thenN rfl rfl ?_
          refine TC.seq ?_
          refine TC.seq ?_
          refine TC.region ?_
          refine TL.p (EvP.fa (e := 0) rfl Tryd.runUnderlying57 rfl Tryd.sizeOf3 rfl) ?_
          refine TL.r (EvR.load rfl Tryd.isAgg3 (AtB.own (by repeat (first | exact Has.hd | refine Has.tlb ?_ | refine Has.tlc ?_))) (by rfl)) ?_
          refine TL.nil ?_
          refine TX.thenN rfl rfl ?_
          refine TC.block ?_
          refine TC.seq ?_
          refine TC.region ?_
          refine TL.p (EvP.isF (EvP.eq rfl rfl) (by omega)) ?_
          refine TL.p (EvP.assign rfl) ?_
          refine TL.nil ?_
          refine TX.thenN rfl rfl ?_
          refine TC.cfalse rfl ?_
          refine TC.seq ?_
          refine TC.region ?_
          refine TL.p (EvP.isF (EvP.eq rfl rfl) (by omega)) ?_
          refine TL.p (EvP.assign rfl) ?_
          refine TL.nil ?_
          refine TX.thenN rfl rfl ?_
          refine TC.cfalse rfl ?_
          refine TC.seq ?_
          refine TC.region ?_
          refine TL.p (EvP.isF (EvP.eq rfl rfl) (by omega)) ?_
          refine TL.p (EvP.assign rfl) ?_
          refine TL.nil ?_
          refine TX.thenN rfl rfl ?_
          refine TC.cfalse rfl ?_
          refine TC.seq ?_
          refine TC.region ?_
          refine TL.p (EvP.isT (EvP.eq rfl rfl) (by omega)) ?_
          refine TL.p (EvP.assign rfl) ?_
          refine TL.nil ?_
          refine TX.thenN rfl rfl ?_
          refine TC.ctrue rfl ?_
          refine TC.seq ?_
          refine TC.region ?_
          refine TL.p (EvP.fa (e := 2) rfl Tryd.runUnderlying57 rfl Tryd.sizeOf9 rfl) ?_
          refine TL.r (EvR.load rfl Tryd.isAgg9 (AtB.own (by repeat (first | exact Has.hd | refine Has.tlb ?_ | refine Has.tlc ?_))) (by rfl)) ?_
          refine TL.p (EvP.lenL Tryd.runUnderlying9 rfl) ?_
          refine TL.dec (EvP.gt rfl rfl) (fun h80 => ?_) (fun h80 => ?_)
          · refine TL.p (EvP.move rfl) ?_
            refine TL.gN rfl rfl rfl ?_
            refine TL.gN rfl rfl rfl ?_
            refine TL.gN rfl rfl rfl ?_
            refine TL.gN rfl rfl rfl ?_
            refine TL.p (EvP.pickT rfl rfl) ?_
            refine TL.nil ?_
            refine TX.thenN rfl rfl ?_
            refine TC.ctrue rfl ?_
            refine TC.seq ?_
            refine TC.region ?_
            refine TL.p (EvP.assign rfl) ?_
            refine TL.nil ?_
            refine TX.thenN rfl rfl ?_
            refine TC.ret ?_
            refine TX.blkR ?_
            refine TX.thenR ?_
            refine TX.done rfl (Res.one rfl rfl) (fun w hs => Post0.mk hs ?_ (by repeat (first | exact Le.refl _ | exact Le.nil _ | refine Le.hit ?_ | refine Le.hit1 ?_ | refine Le.hit2 ?_ | refine Le.hit3 ?_ | refine Le.hit4 ?_ | refine Le.hit5 ?_ | refine Le.hit6 ?_ | refine Le.hit7 ?_ | refine Le.hit8 ?_ | refine Le.hit9 ?_ | refine Le.hit10 ?_ | refine Le.skip ?_)))
            show Value.int .i64 _ = Value.int .i64 (cellE c)
            congr 1
            unfold cellE
            repeat' (first | rfl | rw [if_pos (by first | omega | (constructor <;> first | omega | assumption) | (simp_all; done) | (simp_all; omega))] | rw [if_neg (by first | omega | (intro h; simp_all; done) | (intro h; simp_all; omega))])
          · refine TL.p (EvP.move rfl) ?_
            refine TL.gY rfl rfl rfl ?_
            refine TL.p (EvP.fa (e := 2) rfl Tryd.runUnderlying57 rfl Tryd.sizeOf9 rfl) ?_
            refine TL.gY rfl rfl rfl ?_
            refine TL.r (EvR.load rfl Tryd.isAgg9 (AtB.own (by repeat (first | exact Has.hd | refine Has.tlb ?_ | refine Has.tlc ?_))) (by rfl)) ?_
            refine TL.gY rfl rfl rfl ?_
            refine TL.callA rfl rfl Tryd.call68 (fun w hs => utf8_spec c.t (by omega) hs) ?_
            rintro _ rfl
            refine TL.gY rfl rfl rfl ?_
            refine TL.p (EvP.not rfl) ?_
            refine TL.p (EvP.pickF rfl rfl) ?_
            refine TL.nil ?_
            refine TX.thenN rfl rfl ?_
            refine TC.cond rfl (fun h86 => ?_) (fun h86 => ?_)
            · refine TC.seq ?_
              refine TC.region ?_
              refine TL.p (EvP.assign rfl) ?_
              refine TL.nil ?_
              refine TX.thenN rfl rfl ?_
              refine TC.ret ?_
              refine TX.blkR ?_
              refine TX.thenR ?_
              refine TX.done rfl (Res.one rfl rfl) (fun w hs => Post0.mk hs ?_ (by repeat (first | exact Le.refl _ | exact Le.nil _ | refine Le.hit ?_ | refine Le.hit1 ?_ | refine Le.hit2 ?_ | refine Le.hit3 ?_ | refine Le.hit4 ?_ | refine Le.hit5 ?_ | refine Le.hit6 ?_ | refine Le.hit7 ?_ | refine Le.hit8 ?_ | refine Le.hit9 ?_ | refine Le.hit10 ?_ | refine Le.skip ?_)))
              show Value.int .i64 _ = Value.int .i64 (cellE c)
              congr 1
              unfold cellE
              repeat' (first | rfl | rw [if_pos (by first | omega | (constructor <;> first | omega | assumption) | (simp_all; done) | (simp_all; omega))] | rw [if_neg (by first | omega | (intro h; simp_all; done) | (intro h; simp_all; omega))])
            · refine TC.skip ?_
              refine TX.blkN ?_
              refine TX.thenN rfl rfl ?_
              refine TC.seq ?_
              refine TC.region ?_
              refine TL.p (EvP.assign rfl) ?_
              refine TL.nil ?_
              refine TX.thenN rfl rfl ?_
              refine TC.ret ?_
              refine TX.done rfl (Res.one rfl rfl) (fun w hs => Post0.mk hs ?_ (by repeat (first | exact Le.refl _ | exact Le.nil _ | refine Le.hit ?_ | refine Le.hit1 ?_ | refine Le.hit2 ?_ | refine Le.hit3 ?_ | refine Le.hit4 ?_ | refine Le.hit5 ?_ | refine Le.hit6 ?_ | refine Le.hit7 ?_ | refine Le.hit8 ?_ | refine Le.hit9 ?_ | refine Le.hit10 ?_ | refine Le.skip ?_)))
              show Value.int .i64 _ = Value.int .i64 (cellE c)
              congr 1
              unfold cellE
              repeat' (first | rfl | rw [if_pos (by first | omega | (constructor <;> first | omega | assumption) | (simp_all; done) | (simp_all; omega))] | rw [if_neg (by first | omega | (intro h; simp_all; done) | (intro h; simp_all; omega))])
      · refine TL.p (EvP.move rfl) ?_
        refine TL.gY rfl rfl rfl ?_
        refine TL.p (EvP.fa (e := 0) rfl Tryd.runUnderlying57 rfl Tryd.sizeOf3 rfl) ?_
        refine TL.gY rfl rfl rfl ?_
        refine TL.r (EvR.load rfl Tryd.isAgg3 (AtB.own (by repeat (first | exact Has.hd | refine Has.tlb ?_ | refine Has.tlc ?_))) (by rfl)) ?_
        refine TL.gY rfl rfl rfl ?_
        refine TL.dec (EvP.eq rfl rfl) (fun h18 => ?_) (fun h18 => ?_)
        · refine TL.p (EvP.pickF rfl rfl) ?_
          refine TL.p (EvP.assign rfl) ?_
          refine TL.nil ?_
          refine TX.thenN rfl rfl ?_
          refine TC.seq ?_
          refine TC.seq ?_
          refine TC.region ?_
          refine TL.p (EvP.move rfl) ?_
          refine TL.p (EvP.not rfl) ?_
          refine TL.p (EvP.move rfl) ?_
          refine TL.gN rfl rfl rfl ?_
          refine TL.gN rfl rfl rfl ?_
          refine TL.gN rfl rfl rfl ?_
          refine TL.p (EvP.pickF rfl rfl) ?_
          refine TL.nil ?_
          refine TX.thenN rfl rfl ?_
          refine TC.cfalse rfl ?_
          refine TC.skip ?_
          refine TX.thenN rfl rfl ?_
          refine TC.seq ?_
          refine TC.seq ?_
          refine TC.region ?_
          refine TL.p (EvP.move rfl) ?_
          refine TL.p (EvP.move rfl) ?_
          refine TL.gN rfl rfl rfl ?_
          refine TL.gN rfl rfl rfl ?_
          refine TL.gN rfl rfl rfl ?_
          refine TL.p (EvP.pickT rfl rfl) ?_
          refine TL.p (EvP.move rfl) ?_
          refine TL.gN rfl rfl rfl ?_
          refine TL.gN rfl rfl rfl ?_
          refine TL.gN rfl rfl rfl ?_
          refine TL.p (EvP.pickT rfl rfl) ?_
          refine TL.p (EvP.move rfl) ?_
          refine TL.gY rfl rfl rfl ?_
          refine TL.p (EvP.fa (e := 1) rfl Tryd.runUnderlying57 rfl Tryd.sizeOf2 rfl) ?_
          refine TL.gY rfl rfl rfl ?_
          refine TL.r (EvR.load rfl Tryd.isAgg2 (AtB.own (by repeat (first | exact Has.hd | refine Has.tlb ?_ | refine Has.tlc ?_))) (by rfl)) ?_
          refine TL.gY rfl rfl rfl ?_
          refine TL.dec (EvP.ne rfl rfl) (fun h41 => ?_) (fun h41 => ?_)
          · refine TL.p (EvP.pickT rfl rfl) ?_
            refine TL.nil ?_
            refine TX.thenN rfl rfl ?_
            refine TC.ctrue rfl ?_
            refine TC.seq ?_
            refine TC.region ?_
            refine TL.p (EvP.assign rfl) ?_
            refine TL.nil ?_
            refine TX.thenN rfl rfl ?_
            refine TC.ret ?_
            refine TX.thenR ?_
            refine TX.done rfl (Res.one rfl rfl) (fun w hs => Post0.mk hs ?_ (by repeat (first | exact Le.refl _ | exact Le.nil _ | refine Le.hit ?_ | refine Le.hit1 ?_ | refine Le.hit2 ?_ | refine Le.hit3 ?_ | refine Le.hit4 ?_ | refine Le.hit5 ?_ | refine Le.hit6 ?_ | refine Le.hit7 ?_ | refine Le.hit8 ?_ | refine Le.hit9 ?_ | refine Le.hit10 ?_ | refine Le.skip ?_)))
            show Value.int .i64 _ = Value.int .i64 (cellE c)
            congr 1
            unfold cellE
            repeat' (first | rfl | rw [if_pos (by first | omega | (constructor <;> first | omega | assumption) | (simp_all; done) | (simp_all; omega))] | rw [if_neg (by first | omega | (intro h; simp_all; done) | (intro h; simp_all; omega))])
          · refine TL.p (EvP.pickT rfl rfl) ?_
            refine TL.nil ?_
            refine TX.thenN rfl rfl ?_
            refine TC.cfalse rfl ?_
            refine TC.skip ?_
            refine TX.thenN rfl rfl ?_
            refine TC.seq ?_
            refine TC.seq ?_
            refine TC.region ?_
            refine TL.p (EvP.fa (e := 0) rfl Tryd.runUnderlying57 rfl Tryd.sizeOf3 rfl) ?_
            refine TL.r (EvR.load rfl Tryd.isAgg3 (AtB.own (by repeat (first | exact Has.hd | refine Has.tlb ?_ | refine Has.tlc ?_))) (by rfl)) ?_
            refine TL.nil ?_
            refine TX.thenN rfl rfl ?_
            refine TC.block ?_
            refine TC.seq ?_
            refine TC.region ?_
            refine TL.p (EvP.isF (EvP.eq rfl rfl) (by omega)) ?_
            refine TL.p (EvP.assign rfl) ?_
            refine TL.nil ?_
            refine TX.thenN rfl rfl ?_
            refine TC.cfalse rfl ?_
            refine TC.seq ?_
            refine TC.region ?_
            refine TL.p (EvP.isF (EvP.eq rfl rfl) (by omega)) ?_
            refine TL.p (EvP.assign rfl) ?_
            refine TL.nil ?_
            refine TX.thenN rfl rfl ?_
            refine TC.cfalse rfl ?_
            refine TC.seq ?_
            refine TC.region ?_
            refine TL.p (EvP.isF (EvP.eq rfl rfl) (by omega)) ?_
            refine TL.p (EvP.assign rfl) ?_
            refine TL.nil ?_
            refine TX.thenN rfl rfl ?_
            refine TC.cfalse rfl ?_
            refine TC.seq ?_
            refine TC.region ?_
            refine TL.p (EvP.isF (EvP.eq rfl rfl) (by omega)) ?_
            refine TL.p (EvP.assign rfl) ?_
            refine TL.nil ?_
            refine TX.thenN rfl rfl ?_
            refine TC.cfalse rfl ?_
            refine TC.seq ?_
            refine TC.region ?_
            refine TL.p (EvP.isT (EvP.eq rfl rfl) (by omega)) ?_
            refine TL.p (EvP.assign rfl) ?_
            refine TL.nil ?_
            refine TX.thenN rfl rfl ?_
            refine TC.ctrue rfl ?_
            refine TC.seq ?_
            refine TC.region ?_
            refine TL.p (EvP.fa (e := 2) rfl Tryd.runUnderlying57 rfl Tryd.sizeOf9 rfl) ?_
            refine TL.r (EvR.load rfl Tryd.isAgg9 (AtB.own (by repeat (first | exact Has.hd | refine Has.tlb ?_ | refine Has.tlc ?_))) (by rfl)) ?_
            refine TL.p (EvP.lenL Tryd.runUnderlying9 rfl) ?_
            refine TL.dec (EvP.gt rfl rfl) (fun h92 => ?_) (fun h92 => ?_)
            · refine TL.nil ?_
              refine TX.thenN rfl rfl ?_
              refine TC.ctrue rfl ?_
              refine TC.seq ?_
              refine TC.region ?_
              refine TL.p (EvP.assign rfl) ?_
              refine TL.nil ?_
              refine TX.thenN rfl rfl ?_
              refine TC.ret ?_
              refine TX.blkR ?_
              refine TX.thenR ?_
              refine TX.done rfl (Res.one rfl rfl) (fun w hs => Post0.mk hs ?_ (by repeat (first | exact Le.refl _ | exact Le.nil _ | refine Le.hit ?_ | refine Le.hit1 ?_ | refine Le.hit2 ?_ | refine Le.hit3 ?_ | refine Le.hit4 ?_ | refine Le.hit5 ?_ | refine Le.hit6 ?_ | refine Le.hit7 ?_ | refine Le.hit8 ?_ | refine Le.hit9 ?_ | refine Le.hit10 ?_ | refine Le.skip ?_)))
              show Value.int .i64 _ = Value.int .i64 (cellE c)
              congr 1
              unfold cellE
              repeat' (first | rfl | rw [if_pos (by first | omega | (constructor <;> first | omega | assumption) | (simp_all; done) | (simp_all; omega))] | rw [if_neg (by first | omega | (intro h; simp_all; done) | (intro h; simp_all; omega))])
            · refine TL.nil ?_
              refine TX.thenN rfl rfl ?_
              refine TC.cfalse rfl ?_
              refine TC.skip ?_
              refine TX.blkN ?_
              refine TX.thenN rfl rfl ?_
              refine TC.seq ?_
              refine TC.region ?_
              refine TL.p (EvP.assign rfl) ?_
              refine TL.nil ?_
              refine TX.thenN rfl rfl ?_
              refine TC.ret ?_
              refine TX.done rfl (Res.one rfl rfl) (fun w hs => Post0.mk hs ?_ (by repeat (first | exact Le.refl _ | exact Le.nil _ | refine Le.hit ?_ | refine Le.hit1 ?_ | refine Le.hit2 ?_ | refine Le.hit3 ?_ | refine Le.hit4 ?_ | refine Le.hit5 ?_ | refine Le.hit6 ?_ | refine Le.hit7 ?_ | refine Le.hit8 ?_ | refine Le.hit9 ?_ | refine Le.hit10 ?_ | refine Le.skip ?_)))
              show Value.int .i64 _ = Value.int .i64 (cellE c)
              congr 1
              unfold cellE
              repeat' (first | rfl | rw [if_pos (by first | omega | (constructor <;> first | omega | assumption) | (simp_all; done) | (simp_all; omega))] | rw [if_neg (by first | omega | (intro h; simp_all; done) | (intro h; simp_all; omega))])
        · refine TL.p (EvP.pickF rfl rfl) ?_
          refine TL.p (EvP.assign rfl) ?_
          refine TL.nil ?_
          refine TX.thenN rfl rfl ?_
          refine TC.seq ?_
          refine TC.seq ?_
          refine TC.region ?_
          refine TL.p (EvP.move rfl) ?_
          refine TL.p (EvP.not rfl) ?_
          refine TL.p (EvP.move rfl) ?_
          refine TL.gY rfl rfl rfl ?_
          refine TL.p (EvP.fa (e := 2) rfl Tryd.runUnderlying57 rfl Tryd.sizeOf9 rfl) ?_
          refine TL.gY rfl rfl rfl ?_
          refine TL.r (EvR.load rfl Tryd.isAgg9 (AtB.own (by repeat (first | exact Has.hd | refine Has.tlb ?_ | refine Has.tlc ?_))) (by rfl)) ?_
          refine TL.gY rfl rfl rfl ?_
          refine TL.dec (EvP.neS rfl rfl) (fun h25 => ?_) (fun h25 => ?_)
          · refine TL.p (EvP.pickT rfl rfl) ?_
            refine TL.nil ?_
            refine TX.thenN rfl rfl ?_
            refine TC.ctrue rfl ?_
            refine TC.seq ?_
            refine TC.region ?_
            refine TL.p (EvP.assign rfl) ?_
            refine TL.nil ?_
            refine TX.thenN rfl rfl ?_
            refine TC.ret ?_
            refine TX.thenR ?_
            refine TX.done rfl (Res.one rfl rfl) (fun w hs => Post0.mk hs ?_ (by repeat (first | exact Le.refl _ | exact Le.nil _ | refine Le.hit ?_ | refine Le.hit1 ?_ | refine Le.hit2 ?_ | refine Le.hit3 ?_ | refine Le.hit4 ?_ | refine Le.hit5 ?_ | refine Le.hit6 ?_ | refine Le.hit7 ?_ | refine Le.hit8 ?_ | refine Le.hit9 ?_ | refine Le.hit10 ?_ | refine Le.skip ?_)))
            show Value.int .i64 _ = Value.int .i64 (cellE c)
            congr 1
            unfold cellE
            repeat' (first | rfl | rw [if_pos (by first | omega | (constructor <;> first | omega | assumption) | (simp_all; done) | (simp_all; omega))] | rw [if_neg (by first | omega | (intro h; simp_all; done) | (intro h; simp_all; omega))])
          · refine TL.p (EvP.pickT rfl rfl) ?_
            refine TL.nil ?_
            refine TX.thenN rfl rfl ?_
            refine TC.cfalse rfl ?_
            refine TC.skip ?_
            refine TX.thenN rfl rfl ?_
            refine TC.seq ?_
            refine TC.seq ?_
            refine TC.region ?_
            refine TL.p (EvP.move rfl) ?_
            refine TL.p (EvP.move rfl) ?_
            refine TL.gY rfl rfl rfl ?_
            refine TL.p (EvP.fa (e := 0) rfl Tryd.runUnderlying57 rfl Tryd.sizeOf3 rfl) ?_
            refine TL.gY rfl rfl rfl ?_
            refine TL.r (EvR.load rfl Tryd.isAgg3 (AtB.own (by repeat (first | exact Has.hd | refine Has.tlb ?_ | refine Has.tlc ?_))) (by rfl)) ?_
            refine TL.gY rfl rfl rfl ?_
            refine TL.dec (EvP.eq rfl rfl) (fun h31 => ?_) (fun h31 => ?_)
            · refine TL.p (EvP.pickF rfl rfl) ?_
              refine TL.p (EvP.move rfl) ?_
              refine TL.gN rfl rfl rfl ?_
              refine TL.gN rfl rfl rfl ?_
              refine TL.gN rfl rfl rfl ?_
              refine TL.p (EvP.pickT rfl rfl) ?_
              refine TL.p (EvP.move rfl) ?_
              refine TL.gY rfl rfl rfl ?_
              refine TL.p (EvP.fa (e := 1) rfl Tryd.runUnderlying57 rfl Tryd.sizeOf2 rfl) ?_
              refine TL.gY rfl rfl rfl ?_
              refine TL.r (EvR.load rfl Tryd.isAgg2 (AtB.own (by repeat (first | exact Has.hd | refine Has.tlb ?_ | refine Has.tlc ?_))) (by rfl)) ?_
              refine TL.gY rfl rfl rfl ?_
              refine TL.dec (EvP.ne rfl rfl) (fun h41 => ?_) (fun h41 => ?_)
              · refine TL.p (EvP.pickT rfl rfl) ?_
                refine TL.nil ?_
                refine TX.thenN rfl rfl ?_
                refine TC.ctrue rfl ?_
                refine TC.seq ?_
                refine TC.region ?_
                refine TL.p (EvP.assign rfl) ?_
                refine TL.nil ?_
                refine TX.thenN rfl rfl ?_
                refine TC.ret ?_
                refine TX.thenR ?_
                refine TX.done rfl (Res.one rfl rfl) (fun w hs => Post0.mk hs ?_ (by repeat (first | exact Le.refl _ | exact Le.nil _ | refine Le.hit ?_ | refine Le.hit1 ?_ | refine Le.hit2 ?_ | refine Le.hit3 ?_ | refine Le.hit4 ?_ | refine Le.hit5 ?_ | refine Le.hit6 ?_ | refine Le.hit7 ?_ | refine Le.hit8 ?_ | refine Le.hit9 ?_ | refine Le.hit10 ?_ | refine Le.skip ?_)))
                show Value.int .i64 _ = Value.int .i64 (cellE c)
                congr 1
                unfold cellE
                repeat' (first | rfl | rw [if_pos (by first | omega | (constructor <;> first | omega | assumption) | (simp_all; done) | (simp_all; omega))] | rw [if_neg (by first | omega | (intro h; simp_all; done) | (intro h; simp_all; omega))])
              · refine TL.p (EvP.pickT rfl rfl) ?_
                refine TL.nil ?_
                refine TX.thenN rfl rfl ?_
                refine TC.cfalse rfl ?_
                refine TC.skip ?_
                refine TX.thenN rfl rfl ?_
                refine TC.seq ?_
                refine TC.seq ?_
                refine TC.region ?_
                refine TL.p (EvP.fa (e := 0) rfl Tryd.runUnderlying57 rfl Tryd.sizeOf3 rfl) ?_
                refine TL.r (EvR.load rfl Tryd.isAgg3 (AtB.own (by repeat (first | exact Has.hd | refine Has.tlb ?_ | refine Has.tlc ?_))) (by rfl)) ?_
                refine TL.nil ?_
                refine TX.thenN rfl rfl ?_
                refine TC.block ?_
                refine TC.seq ?_
                refine TC.region ?_
                refine TL.p (EvP.isF (EvP.eq rfl rfl) (by omega)) ?_
                refine TL.p (EvP.assign rfl) ?_
                refine TL.nil ?_
                refine TX.thenN rfl rfl ?_
                refine TC.cfalse rfl ?_
                refine TC.seq ?_
                refine TC.region ?_
                refine TL.p (EvP.isF (EvP.eq rfl rfl) (by omega)) ?_
                refine TL.p (EvP.assign rfl) ?_
                refine TL.nil ?_
                refine TX.thenN rfl rfl ?_
                refine TC.cfalse rfl ?_
                refine TC.seq ?_
                refine TC.region ?_
                refine TL.p (EvP.isF (EvP.eq rfl rfl) (by omega)) ?_
                refine TL.p (EvP.assign rfl) ?_
                refine TL.nil ?_
                refine TX.thenN rfl rfl ?_
                refine TC.cfalse rfl ?_
                refine TC.seq ?_
                refine TC.region ?_
                refine TL.p (EvP.isF (EvP.eq rfl rfl) (by omega)) ?_
                refine TL.p (EvP.assign rfl) ?_
                refine TL.nil ?_
                refine TX.thenN rfl rfl ?_
                refine TC.cfalse rfl ?_
                refine TC.seq ?_
                refine TC.region ?_
                refine TL.p (EvP.isF (EvP.eq rfl rfl) (by omega)) ?_
                refine TL.p (EvP.assign rfl) ?_
                refine TL.nil ?_
                refine TX.thenN rfl rfl ?_
                refine TC.cfalse rfl ?_
                refine TC.skip ?_
                refine TX.blkN ?_
                refine TX.thenN rfl rfl ?_
                refine TC.seq ?_
                refine TC.region ?_
                refine TL.p (EvP.assign rfl) ?_
                refine TL.nil ?_
                refine TX.thenN rfl rfl ?_
                refine TC.ret ?_
                refine TX.done rfl (Res.one rfl rfl) (fun w hs => Post0.mk hs ?_ (by repeat (first | exact Le.refl _ | exact Le.nil _ | refine Le.hit ?_ | refine Le.hit1 ?_ | refine Le.hit2 ?_ | refine Le.hit3 ?_ | refine Le.hit4 ?_ | refine Le.hit5 ?_ | refine Le.hit6 ?_ | refine Le.hit7 ?_ | refine Le.hit8 ?_ | refine Le.hit9 ?_ | refine Le.hit10 ?_ | refine Le.skip ?_)))
                show Value.int .i64 _ = Value.int .i64 (cellE c)
                congr 1
                unfold cellE
                repeat' (first | rfl | rw [if_pos (by first | omega | (constructor <;> first | omega | assumption) | (simp_all; done) | (simp_all; omega))] | rw [if_neg (by first | omega | (intro h; simp_all; done) | (intro h; simp_all; omega))])
            · refine TL.p (EvP.pickF rfl rfl) ?_
              refine TL.p (EvP.move rfl) ?_
              refine TL.gY rfl rfl rfl ?_
              refine TL.p (EvP.fa (e := 0) rfl Tryd.runUnderlying57 rfl Tryd.sizeOf3 rfl) ?_
              refine TL.gY rfl rfl rfl ?_
              refine TL.r (EvR.load rfl Tryd.isAgg3 (AtB.own (by repeat (first | exact Has.hd | refine Has.tlb ?_ | refine Has.tlc ?_))) (by rfl)) ?_
              refine TL.gY rfl rfl rfl ?_
              refine TL.dec (EvP.eq rfl rfl) (fun h36 => ?_) (fun h36 => ?_)
              · refine TL.p (EvP.pickF rfl rfl) ?_
                refine TL.p (EvP.move rfl) ?_
                refine TL.gY rfl rfl rfl ?_
                refine TL.p (EvP.fa (e := 1) rfl Tryd.runUnderlying57 rfl Tryd.sizeOf2 rfl) ?_
                refine TL.gY rfl rfl rfl ?_
                refine TL.r (EvR.load rfl Tryd.isAgg2 (AtB.own (by repeat (first | exact Has.hd | refine Has.tlb ?_ | refine Has.tlc ?_))) (by rfl)) ?_
                refine TL.gY rfl rfl rfl ?_
                refine TL.dec (EvP.ne rfl rfl) (fun h41 => ?_) (fun h41 => ?_)
                · refine TL.p (EvP.pickT rfl rfl) ?_
                  refine TL.nil ?_
                  refine TX.thenN rfl rfl ?_
                  refine TC.ctrue rfl ?_
                  refine TC.seq ?_
                  refine TC.region ?_
                  refine TL.p (EvP.assign rfl) ?_
                  refine TL.nil ?_
                  refine TX.thenN rfl rfl ?_
                  refine TC.ret ?_
                  refine TX.thenR ?_
                  refine TX.done rfl (Res.one rfl rfl) (fun w hs => Post0.mk hs ?_ (by repeat (first | exact Le.refl _ | exact Le.nil _ | refine Le.hit ?_ | refine Le.hit1 ?_ | refine Le.hit2 ?_ | refine Le.hit3 ?_ | refine Le.hit4 ?_ | refine Le.hit5 ?_ | refine Le.hit6 ?_ | refine Le.hit7 ?_ | refine Le.hit8 ?_ | refine Le.hit9 ?_ | refine Le.hit10 ?_ | refine Le.skip ?_)))
                  show Value.int .i64 _ = Value.int .i64 (cellE c)
                  congr 1
                  unfold cellE
                  repeat' (first | rfl | rw [if_pos (by first | omega | (constructor <;> first | omega | assumption) | (simp_all; done) | (simp_all; omega))] | rw [if_neg (by first | omega | (intro h; simp_all; done) | (intro h; simp_all; omega))])
                · refine TL.p (EvP.pickT rfl rfl) ?_
                  refine TL.nil ?_
                  refine TX.thenN rfl rfl ?_
                  refine TC.cfalse rfl ?_
                  refine TC.skip ?_
                  refine TX.thenN rfl rfl ?_
                  refine TC.seq ?_
                  refine TC.seq ?_
                  refine TC.region ?_
                  refine TL.p (EvP.fa (e := 0) rfl Tryd.runUnderlying57 rfl Tryd.sizeOf3 rfl) ?_
                  refine TL.r (EvR.load rfl Tryd.isAgg3 (AtB.own (by repeat (first | exact Has.hd | refine Has.tlb ?_ | refine Has.tlc ?_))) (by rfl)) ?_
                  refine TL.nil ?_
                  refine TX.thenN rfl rfl ?_
                  refine TC.block ?_
                  refine TC.seq ?_
                  refine TC.region ?_
                  refine TL.p (EvP.isF (EvP.eq rfl rfl) (by omega)) ?_
                  refine TL.p (EvP.assign rfl) ?_
                  refine TL.nil ?_
                  refine TX.thenN rfl rfl ?_
                  refine TC.cfalse rfl ?_
                  refine TC.seq ?_
                  refine TC.region ?_
                  refine TL.p (EvP.isF (EvP.eq rfl rfl) (by omega)) ?_
                  refine TL.p (EvP.assign rfl) ?_
                  refine TL.nil ?_
                  refine TX.thenN rfl rfl ?_
                  refine TC.cfalse rfl ?_
                  refine TC.seq ?_
                  refine TC.region ?_
                  refine TL.p (EvP.isF (EvP.eq rfl rfl) (by omega)) ?_
                  refine TL.p (EvP.assign rfl) ?_
                  refine TL.nil ?_
                  refine TX.thenN rfl rfl ?_
                  refine TC.cfalse rfl ?_
                  refine TC.seq ?_
                  refine TC.region ?_
                  refine TL.p (EvP.isF (EvP.eq rfl rfl) (by omega)) ?_
                  refine TL.p (EvP.assign rfl) ?_
                  refine TL.nil ?_
                  refine TX.thenN rfl rfl ?_
                  refine TC.cfalse rfl ?_
                  refine TC.seq ?_
                  refine TC.region ?_
                  refine TL.p (EvP.isF (EvP.eq rfl rfl) (by omega)) ?_
                  refine TL.p (EvP.assign rfl) ?_
                  refine TL.nil ?_
                  refine TX.thenN rfl rfl ?_
                  refine TC.cfalse rfl ?_
                  refine TC.skip ?_
                  refine TX.blkN ?_
                  refine TX.thenN rfl rfl ?_
                  refine TC.seq ?_
                  refine TC.region ?_
                  refine TL.p (EvP.assign rfl) ?_
                  refine TL.nil ?_
                  refine TX.thenN rfl rfl ?_
                  refine TC.ret ?_
                  refine TX.done rfl (Res.one rfl rfl) (fun w hs => Post0.mk hs ?_ (by repeat (first | exact Le.refl _ | exact Le.nil _ | refine Le.hit ?_ | refine Le.hit1 ?_ | refine Le.hit2 ?_ | refine Le.hit3 ?_ | refine Le.hit4 ?_ | refine Le.hit5 ?_ | refine Le.hit6 ?_ | refine Le.hit7 ?_ | refine Le.hit8 ?_ | refine Le.hit9 ?_ | refine Le.hit10 ?_ | refine Le.skip ?_)))
                  show Value.int .i64 _ = Value.int .i64 (cellE c)
                  congr 1
                  unfold cellE
                  repeat' (first | rfl | rw [if_pos (by first | omega | (constructor <;> first | omega | assumption) | (simp_all; done) | (simp_all; omega))] | rw [if_neg (by first | omega | (intro h; simp_all; done) | (intro h; simp_all; omega))])
              · refine TL.p (EvP.pickF rfl rfl) ?_
                refine TL.p (EvP.move rfl) ?_
                refine TL.gN rfl rfl rfl ?_
                refine TL.gN rfl rfl rfl ?_
                refine TL.gN rfl rfl rfl ?_
                refine TL.p (EvP.pickF rfl rfl) ?_
                refine TL.nil ?_
                refine TX.thenN rfl rfl ?_
                refine TC.cfalse rfl ?_
                refine TC.skip ?_
                refine TX.thenN rfl rfl ?_
                refine TC.seq ?_
                refine TC.seq ?_
                refine TC.region ?_
                refine TL.p (EvP.fa (e := 0) rfl Tryd.runUnderlying57 rfl Tryd.sizeOf3 rfl) ?_
                refine TL.r (EvR.load rfl Tryd.isAgg3 (AtB.own (by repeat (first | exact Has.hd | refine Has.tlb ?_ | refine Has.tlc ?_))) (by rfl)) ?_
                refine TL.nil ?_
                refine TX.thenN rfl rfl ?_
                refine TC.block ?_
                refine TC.seq ?_
                refine TC.region ?_
                refine TL.dec (EvP.eq rfl rfl) (fun h46 => ?_) (fun h46 => ?_)
                · refine TL.p (EvP.assign rfl) ?_
                  refine TL.nil ?_
                  refine TX.thenN rfl rfl ?_
                  refine TC.ctrue rfl ?_
                  refine TC.seq ?_
                  refine TC.region ?_
                  refine TL.p (EvP.fa (e := 1) rfl Tryd.runUnderlying57 rfl Tryd.sizeOf2 rfl) ?_
                  refine TL.r (EvR.load rfl Tryd.isAgg2 (AtB.own (by repeat (first | exact Has.hd | refine Has.tlb ?_ | refine Has.tlc ?_))) (by rfl)) ?_
                  refine TL.dec (EvP.lt rfl rfl) (fun h49 => ?_) (fun h49 => ?_)
                  · refine TL.p (EvP.move rfl) ?_
                    refine TL.gN rfl rfl rfl ?_
                    refine TL.gN rfl rfl rfl ?_
                    refine TL.gN rfl rfl rfl ?_
                    refine TL.p (EvP.pickT rfl rfl) ?_
                    refine TL.nil ?_
                    refine TX.thenN rfl rfl ?_
                    refine TC.ctrue rfl ?_
                    refine TC.seq ?_
                    refine TC.region ?_
                    refine TL.p (EvP.assign rfl) ?_
                    refine TL.nil ?_
                    refine TX.thenN rfl rfl ?_
                    refine TC.ret ?_
                    refine TX.blkR ?_
                    refine TX.thenR ?_
                    refine TX.done rfl (Res.one rfl rfl) (fun w hs => Post0.mk hs ?_ (by repeat (first | exact Le.refl _ | exact Le.nil _ | refine Le.hit ?_ | refine Le.hit1 ?_ | refine Le.hit2 ?_ | refine Le.hit3 ?_ | refine Le.hit4 ?_ | refine Le.hit5 ?_ | refine Le.hit6 ?_ | refine Le.hit7 ?_ | refine Le.hit8 ?_ | refine Le.hit9 ?_ | refine Le.hit10 ?_ | refine Le.skip ?_)))
                    show Value.int .i64 _ = Value.int .i64 (cellE c)
                    congr 1
                    unfold cellE
                    repeat' (first | rfl | rw [if_pos (by first | omega | (constructor <;> first | omega | assumption) | (simp_all; done) | (simp_all; omega))] | rw [if_neg (by first | omega | (intro h; simp_all; done) | (intro h; simp_all; omega))])
                  · refine TL.p (EvP.move rfl) ?_
                    refine TL.gY rfl rfl rfl ?_
                    refine TL.p (EvP.fa (e := 1) rfl Tryd.runUnderlying57 rfl Tryd.sizeOf2 rfl) ?_
                    refine TL.gY rfl rfl rfl ?_
                    refine TL.r (EvR.load rfl Tryd.isAgg2 (AtB.own (by repeat (first | exact Has.hd | refine Has.tlb ?_ | refine Has.tlc ?_))) (by rfl)) ?_
                    refine TL.gY rfl rfl rfl ?_
                    refine TL.dec (EvP.gt rfl rfl) (fun h53 => ?_) (fun h53 => ?_)
                    · refine TL.p (EvP.pickF rfl rfl) ?_
                      refine TL.nil ?_
                      refine TX.thenN rfl rfl ?_
                      refine TC.ctrue rfl ?_
                      refine TC.seq ?_
                      refine TC.region ?_
                      refine TL.p (EvP.assign rfl) ?_
                      refine TL.nil ?_
                      refine TX.thenN rfl rfl ?_
                      refine TC.ret ?_
                      refine TX.blkR ?_
                      refine TX.thenR ?_
                      refine TX.done rfl (Res.one rfl rfl) (fun w hs => Post0.mk hs ?_ (by repeat (first | exact Le.refl _ | exact Le.nil _ | refine Le.hit ?_ | refine Le.hit1 ?_ | refine Le.hit2 ?_ | refine Le.hit3 ?_ | refine Le.hit4 ?_ | refine Le.hit5 ?_ | refine Le.hit6 ?_ | refine Le.hit7 ?_ | refine Le.hit8 ?_ | refine Le.hit9 ?_ | refine Le.hit10 ?_ | refine Le.skip ?_)))
                      show Value.int .i64 _ = Value.int .i64 (cellE c)
                      congr 1
                      unfold cellE
                      repeat' (first | rfl | rw [if_pos (by first | omega | (constructor <;> first | omega | assumption) | (simp_all; done) | (simp_all; omega))] | rw [if_neg (by first | omega | (intro h; simp_all; done) | (intro h; simp_all; omega))])
                    · refine TL.p (EvP.pickF rfl rfl) ?_
                      refine TL.nil ?_
                      refine TX.thenN rfl rfl ?_
                      refine TC.cfalse rfl ?_
                      refine TC.skip ?_
                      refine TX.blkN ?_
                      refine TX.thenN rfl rfl ?_
                      refine TC.seq ?_
                      refine TC.region ?_
                      refine TL.p (EvP.assign rfl) ?_
                      refine TL.nil ?_
                      refine TX.thenN rfl rfl ?_
                      refine TC.ret ?_
                      refine TX.done rfl (Res.one rfl rfl) (fun w hs => Post0.mk hs ?_ (by repeat (first | exact Le.refl _ | exact Le.nil _ | refine Le.hit ?_ | refine Le.hit1 ?_ | refine Le.hit2 ?_ | refine Le.hit3 ?_ | refine Le.hit4 ?_ | refine Le.hit5 ?_ | refine Le.hit6 ?_ | refine Le.hit7 ?_ | refine Le.hit8 ?_ | refine Le.hit9 ?_ | refine Le.hit10 ?_ | refine Le.skip ?_)))
                      show Value.int .i64 _ = Value.int .i64 (cellE c)
                      congr 1
                      unfold cellE
                      repeat' (first | rfl | rw [if_pos (by first | omega | (constructor <;> first | omega | assumption) | (simp_all; done) | (simp_all; omega))] | rw [if_neg (by first | omega | (intro h; simp_all; done) | (intro h; simp_all; omega))])
                · refine TL.p (EvP.assign rfl) ?_
                  refine TL.nil ?_
                  refine TX.thenN rfl rfl ?_
                  refine TC.cfalse rfl ?_
                  refine TC.seq ?_
                  refine TC.region ?_
                  refine TL.dec (EvP.eq rfl rfl) (fun h56 => ?_) (fun h56 => ?_)
                  · refine TL.p (EvP.assign rfl) ?_
                    refine TL.nil ?_
                    refine TX.thenN rfl rfl ?_
                    refine TC.ctrue rfl ?_
                    refine TC.seq ?_
                    refine TC.region ?_
                    refine TL.p (EvP.fa (e := 1) rfl Tryd.runUnderlying57 rfl Tryd.sizeOf2 rfl) ?_
                    refine TL.r (EvR.load rfl Tryd.isAgg2 (AtB.own (by repeat (first | exact Has.hd | refine Has.tlb ?_ | refine Has.tlc ?_))) (by rfl)) ?_
                    refine TL.dec (EvP.lt rfl rfl) (fun h59 => ?_) (fun h59 => ?_)
                    · refine TL.p (EvP.move rfl) ?_
                      refine TL.gN rfl rfl rfl ?_
                      refine TL.gN rfl rfl rfl ?_
                      refine TL.gN rfl rfl rfl ?_
                      refine TL.p (EvP.pickT rfl rfl) ?_
                      refine TL.nil ?_
                      refine TX.thenN rfl rfl ?_
                      refine TC.ctrue rfl ?_
                      refine TC.seq ?_
                      refine TC.region ?_
                      refine TL.p (EvP.assign rfl) ?_
                      refine TL.nil ?_
                      refine TX.thenN rfl rfl ?_
                      refine TC.ret ?_
                      refine TX.blkR ?_
                      refine TX.thenR ?_
                      refine TX.done rfl (Res.one rfl rfl) (fun w hs => Post0.mk hs ?_ (by repeat (first | exact Le.refl _ | exact Le.nil _ | refine Le.hit ?_ | refine Le.hit1 ?_ | refine Le.hit2 ?_ | refine Le.hit3 ?_ | refine Le.hit4 ?_ | refine Le.hit5 ?_ | refine Le.hit6 ?_ | refine Le.hit7 ?_ | refine Le.hit8 ?_ | refine Le.hit9 ?_ | refine Le.hit10 ?_ | refine Le.skip ?_)))
                      show Value.int .i64 _ = Value.int .i64 (cellE c)
                      congr 1
                      unfold cellE
                      repeat' (first | rfl | rw [if_pos (by first | omega | (constructor <;> first | omega | assumption) | (simp_all; done) | (simp_all; omega))] | rw [if_neg (by first | omega | (intro h; simp_all; done) | (intro h; simp_all; omega))])
                    · refine TL.p (EvP.move rfl) ?_
                      refine TL.gY rfl rfl rfl ?_
                      refine TL.p (EvP.fa (e := 1) rfl Tryd.runUnderlying57 rfl Tryd.sizeOf2 rfl) ?_
                      refine TL.gY rfl rfl rfl ?_
                      refine TL.r (EvR.load rfl Tryd.isAgg2 (AtB.own (by repeat (first | exact Has.hd | refine Has.tlb ?_ | refine Has.tlc ?_))) (by rfl)) ?_
                      refine TL.gY rfl rfl rfl ?_
                      refine TL.dec (EvP.gt rfl rfl) (fun h63 => ?_) (fun h63 => ?_)
                      · refine TL.p (EvP.pickF rfl rfl) ?_
                        refine TL.nil ?_
                        refine TX.thenN rfl rfl ?_
                        refine TC.ctrue rfl ?_
                        refine TC.seq ?_
                        refine TC.region ?_
                        refine TL.p (EvP.assign rfl) ?_
                        refine TL.nil ?_
                        refine TX.thenN rfl rfl ?_
                        refine TC.ret ?_
                        refine TX.blkR ?_
                        refine TX.thenR ?_
                        refine TX.done rfl (Res.one rfl rfl) (fun w hs => Post0.mk hs ?_ (by repeat (first | exact Le.refl _ | exact Le.nil _ | refine Le.hit ?_ | refine Le.hit1 ?_ | refine Le.hit2 ?_ | refine Le.hit3 ?_ | refine Le.hit4 ?_ | refine Le.hit5 ?_ | refine Le.hit6 ?_ | refine Le.hit7 ?_ | refine Le.hit8 ?_ | refine Le.hit9 ?_ | refine Le.hit10 ?_ | refine Le.skip ?_)))
                        show Value.int .i64 _ = Value.int .i64 (cellE c)
                        congr 1
                        unfold cellE
                        repeat' (first | rfl | rw [if_pos (by first | omega | (constructor <;> first | omega | assumption) | (simp_all; done) | (simp_all; omega))] | rw [if_neg (by first | omega | (intro h; simp_all; done) | (intro h; simp_all; omega))])
                      · refine TL.p (EvP.pickF rfl rfl) ?_
                        refine TL.nil ?_
                        refine TX.thenN rfl rfl ?_
                        refine TC.cfalse rfl ?_
                        refine TC.skip ?_
                        refine TX.blkN ?_
                        refine TX.thenN rfl rfl ?_
                        refine TC.seq ?_
                        refine TC.region ?_
                        refine TL.p (EvP.assign rfl) ?_
                        refine TL.nil ?_
                        refine TX.thenN rfl rfl ?_
                        refine TC.ret ?_
                        refine TX.done rfl (Res.one rfl rfl) (fun w hs => Post0.mk hs ?_ (by repeat (first | exact Le.refl _ | exact Le.nil _ | refine Le.hit ?_ | refine Le.hit1 ?_ | refine Le.hit2 ?_ | refine Le.hit3 ?_ | refine Le.hit4 ?_ | refine Le.hit5 ?_ | refine Le.hit6 ?_ | refine Le.hit7 ?_ | refine Le.hit8 ?_ | refine Le.hit9 ?_ | refine Le.hit10 ?_ | refine Le.skip ?_)))
                        show Value.int .i64 _ = Value.int .i64 (cellE c)
                        congr 1
                        unfold cellE
                        repeat' (first | rfl | rw [if_pos (by first | omega | (constructor <;> first | omega | assumption) | (simp_all; done) | (simp_all; omega))] | rw [if_neg (by first | omega | (intro h; simp_all; done) | (intro h; simp_all; omega))])
                  · refine TL.p (EvP.assign rfl) ?_
                    refine TL.nil ?_
                    refine TX.thenN rfl rfl ?_
                    refine TC.cfalse rfl ?_
                    refine TC.seq ?_
                    refine TC.region ?_
                    refine TL.dec (EvP.eq rfl rfl) (fun h66 => ?_) (fun h66 => ?_)
                    · refine TL.p (EvP.assign rfl) ?_
                      refine TL.nil ?_
                      refine TX.thenN rfl rfl ?_
                      refine TC.ctrue rfl ?_
                      refine TC.seq ?_
                      refine TC.region ?_
                      refine TL.p (EvP.fa (e := 1) rfl Tryd.runUnderlying57 rfl Tryd.sizeOf2 rfl) ?_
                      refine TL.r (EvR.load rfl Tryd.isAgg2 (AtB.own (by repeat (first | exact Has.hd | refine Has.tlb ?_ | refine Has.tlc ?_))) (by rfl)) ?_
                      refine TL.dec (EvP.lt rfl rfl) (fun h69 => ?_) (fun h69 => ?_)
                      · refine TL.p (EvP.move rfl) ?_
                        refine TL.gN rfl rfl rfl ?_
                        refine TL.gN rfl rfl rfl ?_
                        refine TL.gN rfl rfl rfl ?_
                        refine TL.p (EvP.pickT rfl rfl) ?_
                        refine TL.nil ?_
                        refine TX.thenN rfl rfl ?_
                        refine TC.ctrue rfl ?_
                        refine TC.seq ?_
                        refine TC.region ?_
                        refine TL.p (EvP.assign rfl) ?_
                        refine TL.nil ?_
                        refine TX.thenN rfl rfl ?_
                        refine TC.ret ?_
                        refine TX.blkR ?_
                        refine TX.thenR ?_
                        refine TX.done rfl (Res.one rfl rfl) (fun w hs => Post0.mk hs ?_ (by repeat (first | exact Le.refl _ | exact Le.nil _ | refine Le.hit ?_ | refine Le.hit1 ?_ | refine Le.hit2 ?_ | refine Le.hit3 ?_ | refine Le.hit4 ?_ | refine Le.hit5 ?_ | refine Le.hit6 ?_ | refine Le.hit7 ?_ | refine Le.hit8 ?_ | refine Le.hit9 ?_ | refine Le.hit10 ?_ | refine Le.skip ?_)))
                        show Value.int .i64 _ = Value.int .i64 (cellE c)
                        congr 1
                        unfold cellE
                        repeat' (first | rfl | rw [if_pos (by first | omega | (constructor <;> first | omega | assumption) | (simp_all; done) | (simp_all; omega))] | rw [if_neg (by first | omega | (intro h; simp_all; done) | (intro h; simp_all; omega))])
                      · refine TL.p (EvP.move rfl) ?_
                        refine TL.gY rfl rfl rfl ?_
                        refine TL.p (EvP.fa (e := 1) rfl Tryd.runUnderlying57 rfl Tryd.sizeOf2 rfl) ?_
                        refine TL.gY rfl rfl rfl ?_
                        refine TL.r (EvR.load rfl Tryd.isAgg2 (AtB.own (by repeat (first | exact Has.hd | refine Has.tlb ?_ | refine Has.tlc ?_))) (by rfl)) ?_
                        refine TL.gY rfl rfl rfl ?_
                        refine TL.dec (EvP.gt rfl rfl) (fun h73 => ?_) (fun h73 => ?_)
                        · refine TL.p (EvP.pickF rfl rfl) ?_
                          refine TL.nil ?_
                          refine TX.thenN rfl rfl ?_
                          refine TC.ctrue rfl ?_
                          refine TC.seq ?_
                          refine TC.region ?_
                          refine TL.p (EvP.assign rfl) ?_
                          refine TL.nil ?_
                          refine TX.thenN rfl rfl ?_
                          refine TC.ret ?_
                          refine TX.blkR ?_
                          refine TX.thenR ?_
                          refine TX.done rfl (Res.one rfl rfl) (fun w hs => Post0.mk hs ?_ (by repeat (first | exact Le.refl _ | exact Le.nil _ | refine Le.hit ?_ | refine Le.hit1 ?_ | refine Le.hit2 ?_ | refine Le.hit3 ?_ | refine Le.hit4 ?_ | refine Le.hit5 ?_ | refine Le.hit6 ?_ | refine Le.hit7 ?_ | refine Le.hit8 ?_ | refine Le.hit9 ?_ | refine Le.hit10 ?_ | refine Le.skip ?_)))
                          show Value.int .i64 _ = Value.int .i64 (cellE c)
                          congr 1
                          unfold cellE
                          repeat' (first | rfl | rw [if_pos (by first | omega | (constructor <;> first | omega | assumption) | (simp_all; done) | (simp_all; omega))] | rw [if_neg (by first | omega | (intro h; simp_all; done) | (intro h; simp_all; omega))])
                        · refine TL.p (EvP.pickF rfl rfl) ?_
                          refine TL.nil ?_
                          refine TX.thenN rfl rfl ?_
                          refine TC.cfalse rfl ?_
                          refine TC.skip ?_
                          refine TX.blkN ?_
                          refine TX.thenN rfl rfl ?_
                          refine TC.seq ?_
                          refine TC.region ?_
                          refine TL.p (EvP.assign rfl) ?_
                          refine TL.nil ?_
                          refine TX.thenN rfl rfl ?_
                          refine TC.ret ?_
                          refine TX.done rfl (Res.one rfl rfl) (fun w hs => Post0.mk hs ?_ (by repeat (first | exact Le.refl _ | exact Le.nil _ | refine Le.hit ?_ | refine Le.hit1 ?_ | refine Le.hit2 ?_ | refine Le.hit3 ?_ | refine Le.hit4 ?_ | refine Le.hit5 ?_ | refine Le.hit6 ?_ | refine Le.hit7 ?_ | refine Le.hit8 ?_ | refine Le.hit9 ?_ | refine Le.hit10 ?_ | refine Le.skip ?_)))
                          show Value.int .i64 _ = Value.int .i64 (cellE c)
                          congr 1
                          unfold cellE
                          repeat' (first | rfl | rw [if_pos (by first | omega | (constructor <;> first | omega | assumption) | (simp_all; done) | (simp_all; omega))] | rw [if_neg (by first | omega | (intro h; simp_all; done) | (intro h; simp_all; omega))])
                    · refine TL.p (EvP.assign rfl) ?_
                      refine TL.nil ?_
                      refine TX.thenN rfl rfl ?_
                      refine TC.cfalse rfl ?_
                      refine TC.seq ?_
                      refine TC.region ?_
                      refine TL.p (EvP.isF (EvP.eq rfl rfl) (by omega)) ?_
                      refine TL.p (EvP.assign rfl) ?_
                      refine TL.nil ?_
                      refine TX.thenN rfl rfl ?_
                      refine TC.cfalse rfl ?_
                      refine TC.seq ?_
                      refine TC.region ?_
                      refine TL.p (EvP.isF (EvP.eq rfl rfl) (by omega)) ?_
                      refine TL.p (EvP.assign rfl) ?_
                      refine TL.nil ?_
                      refine TX.thenN rfl rfl ?_
                      refine TC.cfalse rfl ?_
                      refine TC.skip ?_
                      refine TX.blkN ?_
                      refine TX.thenN rfl rfl ?_
                      refine TC.seq ?_
                      refine TC.region ?_
                      refine TL.p (EvP.assign rfl) ?_
                      refine TL.nil ?_
                      refine TX.thenN rfl rfl ?_
                      refine TC.ret ?_
                      refine TX.done rfl (Res.one rfl rfl) (fun w hs => Post0.mk hs ?_ (by repeat (first | exact Le.refl _ | exact Le.nil _ | refine Le.hit ?_ | refine Le.hit1 ?_ | refine Le.hit2 ?_ | refine Le.hit3 ?_ | refine Le.hit4 ?_ | refine Le.hit5 ?_ | refine Le.hit6 ?_ | refine Le.hit7 ?_ | refine Le.hit8 ?_ | refine Le.hit9 ?_ | refine Le.hit10 ?_ | refine Le.skip ?_)))
                      show Value.int .i64 _ = Value.int .i64 (cellE c)
                      congr 1
                      unfold cellE
                      repeat' (first | rfl | rw [if_pos (by first | omega | (constructor <;> first | omega | assumption) | (simp_all; done) | (simp_all; omega))] | rw [if_neg (by first | omega | (intro h; simp_all; done) | (intro h; simp_all; omega))])

theorem behind_spec {w0 w : World} {R : List Chunk} (c : Cl) (hst : St w0 w R) : Calls Tryd.prog 47 #[c.v] w (Post0 w0 R fun v => v = .int .i64 (kids c)) := by
  refine calls_of (args := [_]) Tryd.func47 rfl Tryd.ntmps47 hst ?_
  refine TC.seq ?_
  refine TC.region ?_
  refine TL.box rfl rfl (fun b1 => ?_)
  refine TL.p (EvP.assign rfl) ?_
  refine TL.nil ?_
  refine TX.thenN rfl rfl ?_
  refine TC.seq ?_
  refine TC.block ?_
  refine TC.seq ?_
  refine TC.region ?_
  refine TL.p (EvP.fa (e := 0) rfl Tryd.runUnderlying57 rfl Tryd.sizeOf3 rfl) ?_
  refine TL.r (EvR.load rfl Tryd.isAgg3 (AtB.own (by repeat (first | exact Has.hd | refine Has.tlb ?_ | refine Has.tlc ?_))) (by rfl)) ?_
  refine TL.dec (EvP.eq rfl rfl) (fun h6 => ?_) (fun h6 => ?_)
  · refine TL.p (EvP.assign rfl) ?_
    refine TL.nil ?_
    refine TX.thenN rfl rfl ?_
    refine TC.ctrue rfl ?_
    refine TC.seq ?_
    refine TC.region ?_
    refine TL.p (EvP.assign rfl) ?_
    refine TL.nil ?_
    refine TX.thenN rfl rfl ?_
    refine TC.ret ?_
    refine TX.blkR ?_
    refine TX.thenR ?_
    refine TX.done rfl (Res.one rfl rfl) (fun w hs => Post0.mk hs ?_ (by repeat (first | exact Le.refl _ | exact Le.nil _ | refine Le.hit ?_ | refine Le.hit1 ?_ | refine Le.hit2 ?_ | refine Le.hit3 ?_ | refine Le.hit4 ?_ | refine Le.hit5 ?_ | refine Le.hit6 ?_ | refine Le.hit7 ?_ | refine Le.hit8 ?_ | refine Le.hit9 ?_ | refine Le.hit10 ?_ | refine Le.skip ?_)))
    show Value.int .i64 _ = Value.int .i64 (kids c)
    congr 1
    unfold kids
    repeat' (first | rfl | rw [if_pos (by first | omega | (constructor <;> first | omega | assumption) | (simp_all; done) | (simp_all; omega))] | rw [if_neg (by first | omega | (intro h; simp_all; done) | (intro h; simp_all; omega))])
  · refine TL.p (EvP.assign rfl) ?_
    refine TL.nil ?_
    refine TX.thenN rfl rfl ?_
    refine TC.cfalse rfl ?_
    refine TC.seq ?_
    refine TC.region ?_
    refine TL.p (EvP.fa (e := 0) rfl Tryd.runUnderlying57 rfl Tryd.sizeOf3 rfl) ?_
    refine TL.r (EvR.load rfl Tryd.isAgg3 (AtB.own (by repeat (first | exact Has.hd | refine Has.tlb ?_ | refine Has.tlc ?_))) (by rfl)) ?_
    refine TL.dec (EvP.eq rfl rfl) (fun h10 => ?_) (fun h10 => ?_)
    · refine TL.p (EvP.move rfl) ?_
      refine TL.gY rfl rfl rfl ?_
      refine TL.p (EvP.fa (e := 1) rfl Tryd.runUnderlying57 rfl Tryd.sizeOf2 rfl) ?_
      refine TL.gY rfl rfl rfl ?_
      refine TL.r (EvR.load rfl Tryd.isAgg2 (AtB.own (by repeat (first | exact Has.hd | refine Has.tlb ?_ | refine Has.tlc ?_))) (by rfl)) ?_
      refine TL.gY rfl rfl rfl ?_
      refine TL.dec (EvP.ge rfl rfl) (fun h14 => ?_) (fun h14 => ?_)
      · refine TL.p (EvP.pickT rfl rfl) ?_
        refine TL.p (EvP.move rfl) ?_
        refine TL.gY rfl rfl rfl ?_
        refine TL.p (EvP.fa (e := 1) rfl Tryd.runUnderlying57 rfl Tryd.sizeOf2 rfl) ?_
        refine TL.gY rfl rfl rfl ?_
        refine TL.r (EvR.load rfl Tryd.isAgg2 (AtB.own (by repeat (first | exact Has.hd | refine Has.tlb ?_ | refine Has.tlc ?_))) (by rfl)) ?_
        refine TL.gY rfl rfl rfl ?_
        refine TL.dec (EvP.le rfl rfl) (fun h19 => ?_) (fun h19 => ?_)
        · refine TL.p (EvP.pickT rfl rfl) ?_
          refine TL.p (EvP.assign rfl) ?_
          refine TL.nil ?_
          refine TX.thenN rfl rfl ?_
          refine TC.ctrue rfl ?_
          refine TC.seq ?_
          refine TC.region ?_
          refine TL.p (EvP.fa (e := 1) rfl Tryd.runUnderlying57 rfl Tryd.sizeOf2 rfl) ?_
          refine TL.r (EvR.load rfl Tryd.isAgg2 (AtB.own (by repeat (first | exact Has.hd | refine Has.tlb ?_ | refine Has.tlc ?_))) (by rfl)) ?_
          refine TL.p (EvP.assign rfl) ?_
          refine TL.nil ?_
          refine TX.thenN rfl rfl ?_
          refine TC.ret ?_
          refine TX.blkR ?_
          refine TX.thenR ?_
          refine TX.done rfl (Res.one rfl rfl) (fun w hs => Post0.mk hs ?_ (by repeat (first | exact Le.refl _ | exact Le.nil _ | refine Le.hit ?_ | refine Le.hit1 ?_ | refine Le.hit2 ?_ | refine Le.hit3 ?_ | refine Le.hit4 ?_ | refine Le.hit5 ?_ | refine Le.hit6 ?_ | refine Le.hit7 ?_ | refine Le.hit8 ?_ | refine Le.hit9 ?_ | refine Le.hit10 ?_ | refine Le.skip ?_)))
          show Value.int .i64 _ = Value.int .i64 (kids c)
          congr 1
          unfold kids
          repeat' (first | rfl | rw [if_pos (by first | omega | (constructor <;> first | omega | assumption) | (simp_all; done) | (simp_all; omega))] | rw [if_neg (by first | omega | (intro h; simp_all; done) | (intro h; simp_all; omega))])
        · refine TL.p (EvP.pickT rfl rfl) ?_
          refine TL.p (EvP.assign rfl) ?_
          refine TL.nil ?_
          refine TX.thenN rfl rfl ?_
          refine TC.cfalse rfl ?_
          refine TC.skip ?_
          refine TX.blkN ?_
          refine TX.thenN rfl rfl ?_
          refine TC.seq ?_
          refine TC.region ?_
          refine TL.p (EvP.assign rfl) ?_
          refine TL.nil ?_
          refine TX.thenN rfl rfl ?_
          refine TC.ret ?_
          refine TX.done rfl (Res.one rfl rfl) (fun w hs => Post0.mk hs ?_ (by repeat (first | exact Le.refl _ | exact Le.nil _ | refine Le.hit ?_ | refine Le.hit1 ?_ | refine Le.hit2 ?_ | refine Le.hit3 ?_ | refine Le.hit4 ?_ | refine Le.hit5 ?_ | refine Le.hit6 ?_ | refine Le.hit7 ?_ | refine Le.hit8 ?_ | refine Le.hit9 ?_ | refine Le.hit10 ?_ | refine Le.skip ?_)))
          show Value.int .i64 _ = Value.int .i64 (kids c)
          congr 1
          unfold kids
          repeat' (first | rfl | rw [if_pos (by first | omega | (constructor <;> first | omega | assumption) | (simp_all; done) | (simp_all; omega))] | rw [if_neg (by first | omega | (intro h; simp_all; done) | (intro h; simp_all; omega))])
      · refine TL.p (EvP.pickT rfl rfl) ?_
        refine TL.p (EvP.move rfl) ?_
        refine TL.gN rfl rfl rfl ?_
        refine TL.gN rfl rfl rfl ?_
        refine TL.gN rfl rfl rfl ?_
        refine TL.p (EvP.pickF rfl rfl) ?_
        refine TL.p (EvP.assign rfl) ?_
        refine TL.nil ?_
        refine TX.thenN rfl rfl ?_
        refine TC.cfalse rfl ?_
        refine TC.skip ?_
        refine TX.blkN ?_
        refine TX.thenN rfl rfl ?_
        refine TC.seq ?_
        refine TC.region ?_
        refine TL.p (EvP.assign rfl) ?_
        refine TL.nil ?_
        refine TX.thenN rfl rfl ?_
        refine TC.ret ?_
        refine TX.done rfl (Res.one rfl rfl) (fun w hs => Post0.mk hs ?_ (by repeat (first | exact Le.refl _ | exact Le.nil _ | refine Le.hit ?_ | refine Le.hit1 ?_ | refine Le.hit2 ?_ | refine Le.hit3 ?_ | refine Le.hit4 ?_ | refine Le.hit5 ?_ | refine Le.hit6 ?_ | refine Le.hit7 ?_ | refine Le.hit8 ?_ | refine Le.hit9 ?_ | refine Le.hit10 ?_ | refine Le.skip ?_)))
        show Value.int .i64 _ = Value.int .i64 (kids c)
        congr 1
        unfold kids
        repeat' (first | rfl | rw [if_pos (by first | omega | (constructor <;> first | omega | assumption) | (simp_all; done) | (simp_all; omega))] | rw [if_neg (by first | omega | (intro h; simp_all; done) | (intro h; simp_all; omega))])
    · refine TL.p (EvP.move rfl) ?_
      refine TL.gN rfl rfl rfl ?_
      refine TL.gN rfl rfl rfl ?_
      refine TL.gN rfl rfl rfl ?_
      refine TL.p (EvP.pickF rfl rfl) ?_
      refine TL.p (EvP.move rfl) ?_
      refine TL.gN rfl rfl rfl ?_
      refine TL.gN rfl rfl rfl ?_
      refine TL.gN rfl rfl rfl ?_
      refine TL.p (EvP.pickF rfl rfl) ?_
      refine TL.p (EvP.assign rfl) ?_
      refine TL.nil ?_
      refine TX.thenN rfl rfl ?_
      refine TC.cfalse rfl ?_
      refine TC.skip ?_
      refine TX.blkN ?_
      refine TX.thenN rfl rfl ?_
      refine TC.seq ?_
      refine TC.region ?_
      refine TL.p (EvP.assign rfl) ?_
      refine TL.nil ?_
      refine TX.thenN rfl rfl ?_
      refine TC.ret ?_
      refine TX.done rfl (Res.one rfl rfl) (fun w hs => Post0.mk hs ?_ (by repeat (first | exact Le.refl _ | exact Le.nil _ | refine Le.hit ?_ | refine Le.hit1 ?_ | refine Le.hit2 ?_ | refine Le.hit3 ?_ | refine Le.hit4 ?_ | refine Le.hit5 ?_ | refine Le.hit6 ?_ | refine Le.hit7 ?_ | refine Le.hit8 ?_ | refine Le.hit9 ?_ | refine Le.hit10 ?_ | refine Le.skip ?_)))
      show Value.int .i64 _ = Value.int .i64 (kids c)
      congr 1
      unfold kids
      repeat' (first | rfl | rw [if_pos (by first | omega | (constructor <;> first | omega | assumption) | (simp_all; done) | (simp_all; omega))] | rw [if_neg (by first | omega | (intro h; simp_all; done) | (intro h; simp_all; omega))])

theorem kids_spec {w0 w : World} {R : List Chunk} (c : Cl) (hst : St w0 w R) : Calls Tryd.prog 49 #[c.v] w (Post0 w0 R fun v => v = .int .i64 (kids c)) := by
  refine calls_of (args := [_]) Tryd.func49 rfl Tryd.ntmps49 hst ?_
  refine TC.seq ?_
  refine TC.region ?_
  refine TL.box rfl rfl (fun b1 => ?_)
  refine TL.p (EvP.assign rfl) ?_
  refine TL.nil ?_
  refine TX.thenN rfl rfl ?_
  refine TC.seq ?_
  refine TC.seq ?_
  refine TC.region ?_
  refine TL.p (EvP.fa (e := 0) rfl Tryd.runUnderlying57 rfl Tryd.sizeOf3 rfl) ?_
  refine TL.r (EvR.load rfl Tryd.isAgg3 (AtB.own (by repeat (first | exact Has.hd | refine Has.tlb ?_ | refine Has.tlc ?_))) (by rfl)) ?_
  refine TL.dec (EvP.eq rfl rfl) (fun h5 => ?_) (fun h5 => ?_)
  · refine TL.nil ?_
    refine TX.thenN rfl rfl ?_
    refine TC.ctrue rfl ?_
    refine TC.seq ?_
    refine TC.region ?_
    refine TL.p (EvP.assign rfl) ?_
    refine TL.nil ?_
    refine TX.thenN rfl rfl ?_
    refine TC.ret ?_
    refine TX.thenR ?_
    refine TX.done rfl (Res.one rfl rfl) (fun w hs => Post0.mk hs ?_ (by repeat (first | exact Le.refl _ | exact Le.nil _ | refine Le.hit ?_ | refine Le.hit1 ?_ | refine Le.hit2 ?_ | refine Le.hit3 ?_ | refine Le.hit4 ?_ | refine Le.hit5 ?_ | refine Le.hit6 ?_ | refine Le.hit7 ?_ | refine Le.hit8 ?_ | refine Le.hit9 ?_ | refine Le.hit10 ?_ | refine Le.skip ?_)))
    show Value.int .i64 _ = Value.int .i64 (kids c)
    congr 1
    unfold kids
    repeat' (first | rfl | rw [if_pos (by first | omega | (constructor <;> first | omega | assumption) | (simp_all; done) | (simp_all; omega))] | rw [if_neg (by first | omega | (intro h; simp_all; done) | (intro h; simp_all; omega))])
  · refine TL.nil ?_
    refine TX.thenN rfl rfl ?_
    refine TC.cfalse rfl ?_
    refine TC.skip ?_
    refine TX.thenN rfl rfl ?_
    refine TC.seq ?_
    refine TC.seq ?_
    refine TC.region ?_
    refine TL.p (EvP.fa (e := 0) rfl Tryd.runUnderlying57 rfl Tryd.sizeOf3 rfl) ?_
    refine TL.r (EvR.load rfl Tryd.isAgg3 (AtB.own (by repeat (first | exact Has.hd | refine Has.tlb ?_ | refine Has.tlc ?_))) (by rfl)) ?_
    refine TL.dec (EvP.eq rfl rfl) (fun h8 => ?_) (fun h8 => ?_)
    · refine TL.p (EvP.move rfl) ?_
      refine TL.gY rfl rfl rfl ?_
      refine TL.p (EvP.fa (e := 1) rfl Tryd.runUnderlying57 rfl Tryd.sizeOf2 rfl) ?_
      refine TL.gY rfl rfl rfl ?_
      refine TL.r (EvR.load rfl Tryd.isAgg2 (AtB.own (by repeat (first | exact Has.hd | refine Has.tlb ?_ | refine Has.tlc ?_))) (by rfl)) ?_
      refine TL.gY rfl rfl rfl ?_
      refine TL.dec (EvP.ge rfl rfl) (fun h12 => ?_) (fun h12 => ?_)
      · refine TL.p (EvP.pickT rfl rfl) ?_
        refine TL.p (EvP.move rfl) ?_
        refine TL.gY rfl rfl rfl ?_
        refine TL.p (EvP.fa (e := 1) rfl Tryd.runUnderlying57 rfl Tryd.sizeOf2 rfl) ?_
        refine TL.gY rfl rfl rfl ?_
        refine TL.r (EvR.load rfl Tryd.isAgg2 (AtB.own (by repeat (first | exact Has.hd | refine Has.tlb ?_ | refine Has.tlc ?_))) (by rfl)) ?_
        refine TL.gY rfl rfl rfl ?_
        refine TL.dec (EvP.le rfl rfl) (fun h17 => ?_) (fun h17 => ?_)
        · refine TL.p (EvP.pickT rfl rfl) ?_
          refine TL.nil ?_
          refine TX.thenN rfl rfl ?_
          refine TC.ctrue rfl ?_
          refine TC.seq ?_
          refine TC.region ?_
          refine TL.p (EvP.fa (e := 1) rfl Tryd.runUnderlying57 rfl Tryd.sizeOf2 rfl) ?_
          refine TL.r (EvR.load rfl Tryd.isAgg2 (AtB.own (by repeat (first | exact Has.hd | refine Has.tlb ?_ | refine Has.tlc ?_))) (by rfl)) ?_
          refine TL.p (EvP.assign rfl) ?_
          refine TL.nil ?_
          refine TX.thenN rfl rfl ?_
          refine TC.ret ?_
          refine TX.thenR ?_
          refine TX.done rfl (Res.one rfl rfl) (fun w hs => Post0.mk hs ?_ (by repeat (first | exact Le.refl _ | exact Le.nil _ | refine Le.hit ?_ | refine Le.hit1 ?_ | refine Le.hit2 ?_ | refine Le.hit3 ?_ | refine Le.hit4 ?_ | refine Le.hit5 ?_ | refine Le.hit6 ?_ | refine Le.hit7 ?_ | refine Le.hit8 ?_ | refine Le.hit9 ?_ | refine Le.hit10 ?_ | refine Le.skip ?_)))
          show Value.int .i64 _ = Value.int .i64 (kids c)
          congr 1
          unfold kids
          repeat' (first | rfl | rw [if_pos (by first | omega | (constructor <;> first | omega | assumption) | (simp_all; done) | (simp_all; omega))] | rw [if_neg (by first | omega | (intro h; simp_all; done) | (intro h; simp_all; omega))])
        · refine TL.p (EvP.pickT rfl rfl) ?_
          refine TL.nil ?_
          refine TX.thenN rfl rfl ?_
          refine TC.cfalse rfl ?_
          refine TC.skip ?_
          refine TX.thenN rfl rfl ?_
          refine TC.seq ?_
          refine TC.region ?_
          refine TL.p (EvP.assign rfl) ?_
          refine TL.nil ?_
          refine TX.thenN rfl rfl ?_
          refine TC.ret ?_
          refine TX.done rfl (Res.one rfl rfl) (fun w hs => Post0.mk hs ?_ (by repeat (first | exact Le.refl _ | exact Le.nil _ | refine Le.hit ?_ | refine Le.hit1 ?_ | refine Le.hit2 ?_ | refine Le.hit3 ?_ | refine Le.hit4 ?_ | refine Le.hit5 ?_ | refine Le.hit6 ?_ | refine Le.hit7 ?_ | refine Le.hit8 ?_ | refine Le.hit9 ?_ | refine Le.hit10 ?_ | refine Le.skip ?_)))
          show Value.int .i64 _ = Value.int .i64 (kids c)
          congr 1
          unfold kids
          repeat' (first | rfl | rw [if_pos (by first | omega | (constructor <;> first | omega | assumption) | (simp_all; done) | (simp_all; omega))] | rw [if_neg (by first | omega | (intro h; simp_all; done) | (intro h; simp_all; omega))])
      · refine TL.p (EvP.pickT rfl rfl) ?_
        refine TL.p (EvP.move rfl) ?_
        refine TL.gN rfl rfl rfl ?_
        refine TL.gN rfl rfl rfl ?_
        refine TL.gN rfl rfl rfl ?_
        refine TL.p (EvP.pickF rfl rfl) ?_
        refine TL.nil ?_
        refine TX.thenN rfl rfl ?_
        refine TC.cfalse rfl ?_
        refine TC.skip ?_
        refine TX.thenN rfl rfl ?_
        refine TC.seq ?_
        refine TC.region ?_
        refine TL.p (EvP.assign rfl) ?_
        refine TL.nil ?_
        refine TX.thenN rfl rfl ?_
        refine TC.ret ?_
        refine TX.done rfl (Res.one rfl rfl) (fun w hs => Post0.mk hs ?_ (by repeat (first | exact Le.refl _ | exact Le.nil _ | refine Le.hit ?_ | refine Le.hit1 ?_ | refine Le.hit2 ?_ | refine Le.hit3 ?_ | refine Le.hit4 ?_ | refine Le.hit5 ?_ | refine Le.hit6 ?_ | refine Le.hit7 ?_ | refine Le.hit8 ?_ | refine Le.hit9 ?_ | refine Le.hit10 ?_ | refine Le.skip ?_)))
        show Value.int .i64 _ = Value.int .i64 (kids c)
        congr 1
        unfold kids
        repeat' (first | rfl | rw [if_pos (by first | omega | (constructor <;> first | omega | assumption) | (simp_all; done) | (simp_all; omega))] | rw [if_neg (by first | omega | (intro h; simp_all; done) | (intro h; simp_all; omega))])
    · refine TL.p (EvP.move rfl) ?_
      refine TL.gN rfl rfl rfl ?_
      refine TL.gN rfl rfl rfl ?_
      refine TL.gN rfl rfl rfl ?_
      refine TL.p (EvP.pickF rfl rfl) ?_
      refine TL.p (EvP.move rfl) ?_
      refine TL.gN rfl rfl rfl ?_
      refine TL.gN rfl rfl rfl ?_
      refine TL.gN rfl rfl rfl ?_
      refine TL.p (EvP.pickF rfl rfl) ?_
      refine TL.nil ?_
      refine TX.thenN rfl rfl ?_
      refine TC.cfalse rfl ?_
      refine TC.skip ?_
      refine TX.thenN rfl rfl ?_
      refine TC.seq ?_
      refine TC.region ?_
      refine TL.p (EvP.assign rfl) ?_
      refine TL.nil ?_
      refine TX.thenN rfl rfl ?_
      refine TC.ret ?_
      refine TX.done rfl (Res.one rfl rfl) (fun w hs => Post0.mk hs ?_ (by repeat (first | exact Le.refl _ | exact Le.nil _ | refine Le.hit ?_ | refine Le.hit1 ?_ | refine Le.hit2 ?_ | refine Le.hit3 ?_ | refine Le.hit4 ?_ | refine Le.hit5 ?_ | refine Le.hit6 ?_ | refine Le.hit7 ?_ | refine Le.hit8 ?_ | refine Le.hit9 ?_ | refine Le.hit10 ?_ | refine Le.skip ?_)))
      show Value.int .i64 _ = Value.int .i64 (kids c)
      congr 1
      unfold kids
      repeat' (first | rfl | rw [if_pos (by first | omega | (constructor <;> first | omega | assumption) | (simp_all; done) | (simp_all; omega))] | rw [if_neg (by first | omega | (intro h; simp_all; done) | (intro h; simp_all; omega))])

theorem wright_spec {w0 w : World} {H : List Chunk} {v : Value} {xs : List Cl} (hT : Tabs w0) (he : Els (fun w => St w0 w H) v 3 Cl.enc 57 xs) (hsz : xs.length < 4611686018427387904) (hst : St w0 w H) : Calls Tryd.prog 27 #[v] w (Post0 w0 H fun u => u = .tuple #[.int .i64 (rightE xs).1, .int .i64 (rightE xs).2]) := by
  obtain ⟨⟨a, cap, rfl⟩, he2⟩ := id he
  refine calls_of (args := [_]) Tryd.func27 rfl Tryd.ntmps27 hst ?_
  refine TC.seq ?_
  refine TC.region ?_
  refine TL.p (EvP.assign rfl) ?_
  refine TL.p (EvP.assign rfl) ?_
  refine TL.nil ?_
  refine TX.thenN rfl rfl ?_
  refine TC.seq ?_
  refine TC.block ?_
  refine TC.seq ?_
  refine TC.region ?_
  refine TL.p (EvP.move rfl) ?_
  refine TL.p (EvP.lenS Tryd.runUnderlying22 rfl) ?_
  refine TL.dec (EvP.eq rfl rfl) (fun h11 => ?_) (fun h11 => ?_)
  · refine TL.p (EvP.assign rfl) ?_
    refine TL.nil ?_
    refine TX.thenN rfl rfl ?_
    refine TC.ctrue rfl ?_
    refine TC.seq ?_
    refine TC.region ?_
    refine TL.p (EvP.assign rfl) ?_
    refine TL.p (EvP.assign rfl) ?_
    refine TL.nil ?_
    refine TX.thenN rfl rfl ?_
    refine TC.ret ?_
    refine TX.blkR ?_
    refine TX.thenR ?_
    refine TX.done rfl (Res.two rfl rfl rfl) (fun w hs => Post0.mk hs ?_ (by repeat (first | exact Le.refl _ | exact Le.nil _ | refine Le.hit ?_ | refine Le.hit1 ?_ | refine Le.hit2 ?_ | refine Le.hit3 ?_ | refine Le.hit4 ?_ | refine Le.hit5 ?_ | refine Le.hit6 ?_ | refine Le.hit7 ?_ | refine Le.hit8 ?_ | refine Le.hit9 ?_ | refine Le.hit10 ?_ | refine Le.skip ?_)))
    rw [right_none (by omega)]
  · refine TL.p (EvP.assign rfl) ?_
    refine TL.nil ?_
    refine TX.thenN rfl rfl ?_
    refine TC.cfalse rfl ?_
    refine TC.seq ?_
    refine TC.region ?_
    refine TL.p (EvP.move rfl) ?_
    refine TL.p (EvP.lenS Tryd.runUnderlying22 rfl) ?_
    refine TL.dec (EvP.gt rfl rfl) (fun h15 => ?_) (fun h15 => ?_)
    · refine TL.p (EvP.assign rfl) ?_
      refine TL.nil ?_
      refine TX.thenN rfl rfl ?_
      refine TC.ctrue rfl ?_
      refine TC.seq ?_
      refine TC.region ?_
      refine TL.p (EvP.assign rfl) ?_
      refine TL.p (EvP.assign rfl) ?_
      refine TL.nil ?_
      refine TX.thenN rfl rfl ?_
      refine TC.ret ?_
      refine TX.blkR ?_
      refine TX.thenR ?_
      refine TX.done rfl (Res.two rfl rfl rfl) (fun w hs => Post0.mk hs ?_ (by repeat (first | exact Le.refl _ | exact Le.nil _ | refine Le.hit ?_ | refine Le.hit1 ?_ | refine Le.hit2 ?_ | refine Le.hit3 ?_ | refine Le.hit4 ?_ | refine Le.hit5 ?_ | refine Le.hit6 ?_ | refine Le.hit7 ?_ | refine Le.hit8 ?_ | refine Le.hit9 ?_ | refine Le.hit10 ?_ | refine Le.skip ?_)))
      rw [right_large (by omega)]
    · refine TL.p (EvP.assign rfl) ?_
      refine TL.nil ?_
      refine TX.thenN rfl rfl ?_
      refine TC.cfalse rfl ?_
      refine TC.skip ?_
      refine TX.blkN ?_
      refine TX.thenN rfl rfl ?_
      refine TC.seq ?_
      refine TC.region ?_
      refine TL.p (EvP.assign rfl) ?_
      refine TL.nil ?_
      refine TX.thenN rfl rfl ?_
      refine TC.seq ?_
      refine TC.seq ?_
      refine TC.region ?_
      refine TL.p (EvP.move rfl) ?_
      refine TL.p (EvP.lenS Tryd.runUnderlying22 rfl) ?_
      refine TL.p (EvP.move rfl) ?_
      refine TL.nil ?_
      refine TX.thenN rfl rfl ?_
      refine TC.block ?_
      refine TC.loop (ι := Nat × Int) (fun (i, op) => [(16, .slice a xs.length cap), (17, .int .i64 xs.length), (18, .int .i64 i), (4, .int .i64 op), (0, .slice a xs.length cap)]) (fun (i, op) => H) (fun (i, op) => i ≤ xs.length ∧ 0 ≤ op ∧ op ≤ 1 + 255 * (i : Int) ∧ rightE xs = rgo xs.length (xs.drop i) op i) (fun (i, op) => xs.length - i) ((0, 1)) (⟨by omega, by omega, by omega, right_go (by omega) (by omega)⟩) ⟨rfl, rfl, rfl, rfl, rfl, trivial⟩ (by repeat (first | exact Le.refl _ | exact Le.nil _ | refine Le.hit ?_ | refine Le.hit1 ?_ | refine Le.hit2 ?_ | refine Le.hit3 ?_ | refine Le.hit4 ?_ | refine Le.hit5 ?_ | refine Le.hit6 ?_ | refine Le.hit7 ?_ | refine Le.hit8 ?_ | refine Le.hit9 ?_ | refine Le.hit10 ?_ | refine Le.skip ?_)) ?_
      rintro ⟨i, op⟩ ⟨hi, ho0, ho1, hr⟩
      change TC _ _ [(16, .slice a xs.length cap), (17, .int .i64 xs.length), (18, .int .i64 i), (4, .int .i64 op), (0, .slice a xs.length cap)] (H) _
      refine TC.seq ?_
      refine TC.region ?_
      refine TL.dec (EvP.lt rfl rfl) (fun h19 => ?_) (fun h19 => ?_)
      · refine TL.nil ?_
        refine TX.thenN rfl rfl ?_
        refine TC.seq ?_
        refine TC.ctrue rfl ?_
        refine TC.skip ?_
        refine TX.thenN rfl rfl ?_
        refine TC.seq ?_
        refine TC.block ?_
        refine TC.seq ?_
        refine TC.region ?_
        refine TL.p (EvP.move rfl) ?_
        have hlt : i < xs.length := by omega
        obtain ⟨x, hx⟩ : ∃ x, xs[i]? = some x := ⟨_, List.getElem?_eq_getElem hlt⟩
        have hkb := kids_b x
        refine TL.elem (he2 i x hx) Tryd.runUnderlying22 Tryd.sizeOf57 rfl rfl (fun bE oE lE _ _ hE hcE => ?_)
        refine TL.r (EvR.loadN (vs := [_, _, _]) rfl Tryd.isAgg57 Tryd.sizeOf57 hE hcE) ?_
        refine TL.alloc Tryd.zeroValue57 rfl (fun b6 => ?_)
        refine TL.p (EvP.assign rfl) ?_
        refine TL.u (EvU.store rfl rfl Tryd.sizeOf57 rfl rfl rfl rfl (by repeat (first | exact Has.hd | refine Has.tlb ?_ | refine Has.tlc ?_)) (by repeat (first | exact SetLs.nil | exact SetL.here | apply SetLs.cons | apply SetL.there)) (by repeat (first | exact Upd.hd | apply Upd.tlb | apply Upd.tlc))) ?_
        refine TL.nil ?_
        refine TX.thenN rfl rfl ?_
        refine TC.seq ?_
        refine TC.seq ?_
        refine TC.region ?_
        refine TL.r (EvR.loadN (vs := [_, _, _]) rfl Tryd.isAgg57 Tryd.sizeOf57 (AtB.own (by repeat (first | exact Has.hd | refine Has.tlb ?_ | refine Has.tlc ?_))) (by exact ⟨rfl, rfl, rfl,  trivial⟩)) ?_
        refine TL.callA rfl rfl Tryd.call46 (fun w hs => wcell_spec hT x hs) ?_
        rintro _ rfl
        refine TL.p (EvP.assign rfl) ?_
        refine TL.nil ?_
        refine TX.thenN rfl rfl ?_
        refine TC.seq ?_
        refine TC.region ?_
        refine TL.p (EvP.move rfl) ?_
        refine TL.dec (EvP.ne rfl rfl) (fun h26 => ?_) (fun h26 => ?_)
        · refine TL.nil ?_
          refine TX.thenN rfl rfl ?_
          refine TC.ctrue rfl ?_
          refine TC.seq ?_
          refine TC.region ?_
          refine TL.p (EvP.move rfl) ?_
          refine TL.p (EvP.move rfl) ?_
          refine TL.p (EvP.assign rfl) ?_
          refine TL.p (EvP.assign rfl) ?_
          refine TL.nil ?_
          refine TX.thenN rfl rfl ?_
          refine TC.ret ?_
          refine TX.thenR ?_
          refine TX.blkR ?_
          refine TX.thenR ?_
          refine TX.thenR ?_
          refine TX.blkR ?_
          refine TX.thenR ?_
          refine TX.done rfl (Res.two rfl rfl rfl) (fun w hs => Post0.mk hs ?_ (by repeat (first | exact Le.refl _ | exact Le.nil _ | refine Le.hit ?_ | refine Le.hit1 ?_ | refine Le.hit2 ?_ | refine Le.hit3 ?_ | refine Le.hit4 ?_ | refine Le.hit5 ?_ | refine Le.hit6 ?_ | refine Le.hit7 ?_ | refine Le.hit8 ?_ | refine Le.hit9 ?_ | refine Le.hit10 ?_ | refine Le.skip ?_)))
          rw [hr, rgo_cell hx (by omega)]
        · refine TL.nil ?_
          refine TX.thenN rfl rfl ?_
          refine TC.cfalse rfl ?_
          refine TC.skip ?_
          refine TX.thenN rfl rfl ?_
          refine TC.seq ?_
          refine TC.seq ?_
          refine TC.region ?_
          refine TL.p (EvP.move rfl) ?_
          refine TL.dec (EvP.eq rfl rfl) (fun h30 => ?_) (fun h30 => ?_)
          · refine TL.nil ?_
            refine TX.thenN rfl rfl ?_
            refine TC.ctrue rfl ?_
            refine TC.seq ?_
            refine TC.region ?_
            refine TL.p (EvP.move rfl) ?_
            refine TL.p (EvP.assign rfl) ?_
            refine TL.p (EvP.assign rfl) ?_
            refine TL.nil ?_
            refine TX.thenN rfl rfl ?_
            refine TC.ret ?_
            refine TX.thenR ?_
            refine TX.blkR ?_
            refine TX.thenR ?_
            refine TX.thenR ?_
            refine TX.blkR ?_
            refine TX.thenR ?_
            refine TX.done rfl (Res.two rfl rfl rfl) (fun w hs => Post0.mk hs ?_ (by repeat (first | exact Le.refl _ | exact Le.nil _ | refine Le.hit ?_ | refine Le.hit1 ?_ | refine Le.hit2 ?_ | refine Le.hit3 ?_ | refine Le.hit4 ?_ | refine Le.hit5 ?_ | refine Le.hit6 ?_ | refine Le.hit7 ?_ | refine Le.hit8 ?_ | refine Le.hit9 ?_ | refine Le.hit10 ?_ | refine Le.skip ?_)))
            rw [hr, rgo_more hx (by omega) (by omega)]
          · refine TL.nil ?_
            refine TX.thenN rfl rfl ?_
            refine TC.cfalse rfl ?_
            refine TC.skip ?_
            refine TX.thenN rfl rfl ?_
            refine TC.region ?_
            have hce : cellE x = 0 := by omega
            refine TL.p (EvP.move rfl) ?_
            refine TL.r (EvR.loadN (vs := [_, _, _]) rfl Tryd.isAgg57 Tryd.sizeOf57 (AtB.own (by repeat (first | exact Has.hd | refine Has.tlb ?_ | refine Has.tlc ?_))) (by exact ⟨rfl, rfl, rfl,  trivial⟩)) ?_
            refine TL.callA rfl rfl Tryd.call47 (fun w hs => behind_spec x hs) ?_
            rintro _ rfl
            refine TL.p (EvP.sub rfl rfl (by omega)) ?_
            refine TL.p (EvP.add rfl rfl (by omega)) ?_
            refine TL.p (EvP.assign rfl) ?_
            refine TL.nil ?_
            refine TX.blkN ?_
            refine TX.thenN rfl rfl ?_
            refine TC.region ?_
            refine TL.p (EvP.add rfl rfl (by omega)) ?_
            refine TL.p (EvP.move rfl) ?_
            refine TL.nil ?_
            refine TX.back ((i + 1, op + (kids x - 1))) (⟨by omega, by omega, by omega, by rw [hr, rgo_next (op' := op + (kids x - 1)) hx hce ⟨by omega, by omega⟩]⟩) (by simp only; omega) ⟨rfl, rfl, rfl, rfl, rfl, trivial⟩ (by repeat (first | exact Le.refl _ | exact Le.nil _ | refine Le.hit ?_ | refine Le.hit1 ?_ | refine Le.hit2 ?_ | refine Le.hit3 ?_ | refine Le.hit4 ?_ | refine Le.hit5 ?_ | refine Le.hit6 ?_ | refine Le.hit7 ?_ | refine Le.hit8 ?_ | refine Le.hit9 ?_ | refine Le.hit10 ?_ | refine Le.skip ?_))
      · refine TL.nil ?_
        refine TX.thenN rfl rfl ?_
        refine TC.seq ?_
        refine TC.cfalse rfl ?_
        refine TC.exit ?_
        refine TX.thenE ?_
        refine TX.thenE ?_
        refine TX.blkH ?_
        refine TX.thenN rfl rfl ?_
        refine TC.seq ?_
        refine TC.seq ?_
        refine TC.region ?_
        refine TL.p (EvP.move rfl) ?_
        refine TL.dec (EvP.gt rfl rfl) (fun h39 => ?_) (fun h39 => ?_)
        · refine TL.nil ?_
          refine TX.thenN rfl rfl ?_
          refine TC.ctrue rfl ?_
          refine TC.seq ?_
          refine TC.region ?_
          refine TL.p (EvP.move rfl) ?_
          refine TL.p (EvP.lenS Tryd.runUnderlying22 rfl) ?_
          refine TL.p (EvP.assign rfl) ?_
          refine TL.p (EvP.assign rfl) ?_
          refine TL.nil ?_
          refine TX.thenN rfl rfl ?_
          refine TC.ret ?_
          refine TX.thenR ?_
          refine TX.done rfl (Res.two rfl rfl rfl) (fun w hs => Post0.mk hs ?_ (by repeat (first | exact Le.refl _ | exact Le.nil _ | refine Le.hit ?_ | refine Le.hit1 ?_ | refine Le.hit2 ?_ | refine Le.hit3 ?_ | refine Le.hit4 ?_ | refine Le.hit5 ?_ | refine Le.hit6 ?_ | refine Le.hit7 ?_ | refine Le.hit8 ?_ | refine Le.hit9 ?_ | refine Le.hit10 ?_ | refine Le.skip ?_)))
          rw [hr, rgo_short (by omega) (by omega)]
        · refine TL.nil ?_
          refine TX.thenN rfl rfl ?_
          refine TC.cfalse rfl ?_
          refine TC.skip ?_
          refine TX.thenN rfl rfl ?_
          refine TC.seq ?_
          refine TC.region ?_
          refine TL.p (EvP.assign rfl) ?_
          refine TL.p (EvP.assign rfl) ?_
          refine TL.nil ?_
          refine TX.thenN rfl rfl ?_
          refine TC.ret ?_
          refine TX.done rfl (Res.two rfl rfl rfl) (fun w hs => Post0.mk hs ?_ (by repeat (first | exact Le.refl _ | exact Le.nil _ | refine Le.hit ?_ | refine Le.hit1 ?_ | refine Le.hit2 ?_ | refine Le.hit3 ?_ | refine Le.hit4 ?_ | refine Le.hit5 ?_ | refine Le.hit6 ?_ | refine Le.hit7 ?_ | refine Le.hit8 ?_ | refine Le.hit9 ?_ | refine Le.hit10 ?_ | refine Le.skip ?_)))
          rw [hr, rgo_ok (by omega) (by omega)]

theorem rright_spec {w0 w : World} {H : List Chunk} {v : Value} {xs : List Cl} (he : Els (fun w => St w0 w H) v 3 Cl.enc 57 xs) (hsz : xs.length < 4611686018427387904) (hst : St w0 w H) : Calls Tryd.prog 32 #[v] w (Post0 w0 H fun u => u = .tuple #[.int .i64 (rightE xs).1, .int .i64 (rightE xs).2]) := by
  obtain ⟨⟨a, cap, rfl⟩, he2⟩ := id he
  refine calls_of (args := [_]) Tryd.func32 rfl Tryd.ntmps32 hst ?_
  refine TC.seq ?_
  refine TC.region ?_
  refine TL.p (EvP.assign rfl) ?_
  refine TL.p (EvP.assign rfl) ?_
  refine TL.nil ?_
  refine TX.thenN rfl rfl ?_
  refine TC.seq ?_
  refine TC.seq ?_
  refine TC.region ?_
  refine TL.p (EvP.move rfl) ?_
  refine TL.p (EvP.lenS Tryd.runUnderlying22 rfl) ?_
  refine TL.dec (EvP.eq rfl rfl) (fun h9 => ?_) (fun h9 => ?_)
  · refine TL.nil ?_
    refine TX.thenN rfl rfl ?_
    refine TC.ctrue rfl ?_
    refine TC.seq ?_
    refine TC.region ?_
    refine TL.p (EvP.assign rfl) ?_
    refine TL.p (EvP.assign rfl) ?_
    refine TL.nil ?_
    refine TX.thenN rfl rfl ?_
    refine TC.ret ?_
    refine TX.thenR ?_
    refine TX.done rfl (Res.two rfl rfl rfl) (fun w hs => Post0.mk hs ?_ (by repeat (first | exact Le.refl _ | exact Le.nil _ | refine Le.hit ?_ | refine Le.hit1 ?_ | refine Le.hit2 ?_ | refine Le.hit3 ?_ | refine Le.hit4 ?_ | refine Le.hit5 ?_ | refine Le.hit6 ?_ | refine Le.hit7 ?_ | refine Le.hit8 ?_ | refine Le.hit9 ?_ | refine Le.hit10 ?_ | refine Le.skip ?_)))
    rw [right_none (by omega)]
  · refine TL.nil ?_
    refine TX.thenN rfl rfl ?_
    refine TC.cfalse rfl ?_
    refine TC.skip ?_
    refine TX.thenN rfl rfl ?_
    refine TC.seq ?_
    refine TC.seq ?_
    refine TC.region ?_
    refine TL.p (EvP.move rfl) ?_
    refine TL.p (EvP.lenS Tryd.runUnderlying22 rfl) ?_
    refine TL.dec (EvP.gt rfl rfl) (fun h12 => ?_) (fun h12 => ?_)
    · refine TL.nil ?_
      refine TX.thenN rfl rfl ?_
      refine TC.ctrue rfl ?_
      refine TC.seq ?_
      refine TC.region ?_
      refine TL.p (EvP.assign rfl) ?_
      refine TL.p (EvP.assign rfl) ?_
      refine TL.nil ?_
      refine TX.thenN rfl rfl ?_
      refine TC.ret ?_
      refine TX.thenR ?_
      refine TX.done rfl (Res.two rfl rfl rfl) (fun w hs => Post0.mk hs ?_ (by repeat (first | exact Le.refl _ | exact Le.nil _ | refine Le.hit ?_ | refine Le.hit1 ?_ | refine Le.hit2 ?_ | refine Le.hit3 ?_ | refine Le.hit4 ?_ | refine Le.hit5 ?_ | refine Le.hit6 ?_ | refine Le.hit7 ?_ | refine Le.hit8 ?_ | refine Le.hit9 ?_ | refine Le.hit10 ?_ | refine Le.skip ?_)))
      rw [right_large (by omega)]
    · refine TL.nil ?_
      refine TX.thenN rfl rfl ?_
      refine TC.cfalse rfl ?_
      refine TC.skip ?_
      refine TX.thenN rfl rfl ?_
      refine TC.seq ?_
      refine TC.region ?_
      refine TL.p (EvP.assign rfl) ?_
      refine TL.nil ?_
      refine TX.thenN rfl rfl ?_
      refine TC.seq ?_
      refine TC.seq ?_
      refine TC.region ?_
      refine TL.p (EvP.assign rfl) ?_
      refine TL.nil ?_
      refine TX.thenN rfl rfl ?_
      refine TC.block ?_
      refine TC.loop (ι := Nat × Int) (fun (i, op) => [(0, .slice a xs.length cap), (5, .int .i64 i), (4, .int .i64 op)]) (fun (i, op) => H) (fun (i, op) => i ≤ xs.length ∧ 0 ≤ op ∧ op ≤ 1 + 255 * (i : Int) ∧ rightE xs = rgo xs.length (xs.drop i) op i) (fun (i, op) => xs.length - i) ((0, 1)) (⟨by omega, by omega, by omega, right_go (by omega) (by omega)⟩) ⟨rfl, rfl, rfl, trivial⟩ (by repeat (first | exact Le.refl _ | exact Le.nil _ | refine Le.hit ?_ | refine Le.hit1 ?_ | refine Le.hit2 ?_ | refine Le.hit3 ?_ | refine Le.hit4 ?_ | refine Le.hit5 ?_ | refine Le.hit6 ?_ | refine Le.hit7 ?_ | refine Le.hit8 ?_ | refine Le.hit9 ?_ | refine Le.hit10 ?_ | refine Le.skip ?_)) ?_
      rintro ⟨i, op⟩ ⟨hi, ho0, ho1, hr⟩
      change TC _ _ [(0, .slice a xs.length cap), (5, .int .i64 i), (4, .int .i64 op)] (H) _
      refine TC.seq ?_
      refine TC.seq ?_
      refine TC.region ?_
      refine TL.p (EvP.move rfl) ?_
      refine TL.p (EvP.move rfl) ?_
      refine TL.p (EvP.lenS Tryd.runUnderlying22 rfl) ?_
      refine TL.dec (EvP.lt rfl rfl) (fun h16 => ?_) (fun h16 => ?_)
      · refine TL.nil ?_
        refine TX.thenN rfl rfl ?_
        refine TC.ctrue rfl ?_
        refine TC.skip ?_
        refine TX.thenN rfl rfl ?_
        refine TC.seq ?_
        refine TC.block ?_
        refine TC.seq ?_
        refine TC.region ?_
        refine TL.p (EvP.move rfl) ?_
        refine TL.p (EvP.move rfl) ?_
        have hlt : i < xs.length := by omega
        obtain ⟨x, hx⟩ : ∃ x, xs[i]? = some x := ⟨_, List.getElem?_eq_getElem hlt⟩
        have hkb := kids_b x
        refine TL.elem (he2 i x hx) Tryd.runUnderlying22 Tryd.sizeOf57 rfl rfl (fun bE oE lE _ _ hE hcE => ?_)
        refine TL.r (EvR.loadN (vs := [_, _, _]) rfl Tryd.isAgg57 Tryd.sizeOf57 hE hcE) ?_
        refine TL.callA rfl rfl Tryd.call48 (fun w hs => rcell_spec x hs) ?_
        rintro _ rfl
        refine TL.p (EvP.assign rfl) ?_
        refine TL.nil ?_
        refine TX.thenN rfl rfl ?_
        refine TC.seq ?_
        refine TC.seq ?_
        refine TC.region ?_
        refine TL.p (EvP.move rfl) ?_
        refine TL.dec (EvP.ne rfl rfl) (fun h25 => ?_) (fun h25 => ?_)
        · refine TL.nil ?_
          refine TX.thenN rfl rfl ?_
          refine TC.ctrue rfl ?_
          refine TC.seq ?_
          refine TC.region ?_
          refine TL.p (EvP.move rfl) ?_
          refine TL.p (EvP.move rfl) ?_
          refine TL.p (EvP.assign rfl) ?_
          refine TL.p (EvP.assign rfl) ?_
          refine TL.nil ?_
          refine TX.thenN rfl rfl ?_
          refine TC.ret ?_
          refine TX.thenR ?_
          refine TX.blkR ?_
          refine TX.thenR ?_
          refine TX.thenR ?_
          refine TX.blkR ?_
          refine TX.thenR ?_
          refine TX.done rfl (Res.two rfl rfl rfl) (fun w hs => Post0.mk hs ?_ (by repeat (first | exact Le.refl _ | exact Le.nil _ | refine Le.hit ?_ | refine Le.hit1 ?_ | refine Le.hit2 ?_ | refine Le.hit3 ?_ | refine Le.hit4 ?_ | refine Le.hit5 ?_ | refine Le.hit6 ?_ | refine Le.hit7 ?_ | refine Le.hit8 ?_ | refine Le.hit9 ?_ | refine Le.hit10 ?_ | refine Le.skip ?_)))
          rw [hr, rgo_cell hx (by omega)]
        · refine TL.nil ?_
          refine TX.thenN rfl rfl ?_
          refine TC.cfalse rfl ?_
          refine TC.skip ?_
          refine TX.thenN rfl rfl ?_
          refine TC.seq ?_
          refine TC.seq ?_
          refine TC.region ?_
          refine TL.p (EvP.move rfl) ?_
          refine TL.dec (EvP.eq rfl rfl) (fun h29 => ?_) (fun h29 => ?_)
          · refine TL.nil ?_
            refine TX.thenN rfl rfl ?_
            refine TC.ctrue rfl ?_
            refine TC.seq ?_
            refine TC.region ?_
            refine TL.p (EvP.move rfl) ?_
            refine TL.p (EvP.assign rfl) ?_
            refine TL.p (EvP.assign rfl) ?_
            refine TL.nil ?_
            refine TX.thenN rfl rfl ?_
            refine TC.ret ?_
            refine TX.thenR ?_
            refine TX.blkR ?_
            refine TX.thenR ?_
            refine TX.thenR ?_
            refine TX.blkR ?_
            refine TX.thenR ?_
            refine TX.done rfl (Res.two rfl rfl rfl) (fun w hs => Post0.mk hs ?_ (by repeat (first | exact Le.refl _ | exact Le.nil _ | refine Le.hit ?_ | refine Le.hit1 ?_ | refine Le.hit2 ?_ | refine Le.hit3 ?_ | refine Le.hit4 ?_ | refine Le.hit5 ?_ | refine Le.hit6 ?_ | refine Le.hit7 ?_ | refine Le.hit8 ?_ | refine Le.hit9 ?_ | refine Le.hit10 ?_ | refine Le.skip ?_)))
            rw [hr, rgo_more hx (by omega) (by omega)]
          · refine TL.nil ?_
            refine TX.thenN rfl rfl ?_
            refine TC.cfalse rfl ?_
            refine TC.skip ?_
            refine TX.thenN rfl rfl ?_
            refine TC.region ?_
            refine TL.p (EvP.move rfl) ?_
            refine TL.p (EvP.sub rfl rfl (by omega)) ?_
            refine TL.p (EvP.move rfl) ?_
            refine TL.p (EvP.move rfl) ?_
            have hce : cellE x = 0 := by omega
            refine TL.elem (he2 i x hx) Tryd.runUnderlying22 Tryd.sizeOf57 rfl rfl (fun bF oF lF _ _ hF hcF => ?_)
            refine TL.r (EvR.loadN (vs := [_, _, _]) rfl Tryd.isAgg57 Tryd.sizeOf57 hF hcF) ?_
            refine TL.callA rfl rfl Tryd.call49 (fun w hs => kids_spec x hs) ?_
            rintro _ rfl
            refine TL.p (EvP.add rfl rfl (by omega)) ?_
            refine TL.p (EvP.assign rfl) ?_
            refine TL.nil ?_
            refine TX.blkN ?_
            refine TX.thenN rfl rfl ?_
            refine TC.region ?_
            refine TL.p (EvP.move rfl) ?_
            refine TL.p (EvP.add rfl rfl (by omega)) ?_
            refine TL.p (EvP.assign rfl) ?_
            refine TL.nil ?_
            refine TX.back ((i + 1, op - 1 + kids x)) (⟨by omega, by omega, by omega, by rw [hr, rgo_next (op' := op - 1 + kids x) hx hce ⟨by omega, by omega⟩]⟩) (by simp only; omega) ⟨rfl, rfl, rfl, trivial⟩ (by repeat (first | exact Le.refl _ | exact Le.nil _ | refine Le.hit ?_ | refine Le.hit1 ?_ | refine Le.hit2 ?_ | refine Le.hit3 ?_ | refine Le.hit4 ?_ | refine Le.hit5 ?_ | refine Le.hit6 ?_ | refine Le.hit7 ?_ | refine Le.hit8 ?_ | refine Le.hit9 ?_ | refine Le.hit10 ?_ | refine Le.skip ?_))
      · refine TL.nil ?_
        refine TX.thenN rfl rfl ?_
        refine TC.cfalse rfl ?_
        refine TC.exit ?_
        refine TX.thenE ?_
        refine TX.thenE ?_
        refine TX.blkH ?_
        refine TX.thenN rfl rfl ?_
        refine TC.seq ?_
        refine TC.seq ?_
        refine TC.region ?_
        refine TL.p (EvP.move rfl) ?_
        refine TL.dec (EvP.gt rfl rfl) (fun h40 => ?_) (fun h40 => ?_)
        · refine TL.nil ?_
          refine TX.thenN rfl rfl ?_
          refine TC.ctrue rfl ?_
          refine TC.seq ?_
          refine TC.region ?_
          refine TL.p (EvP.move rfl) ?_
          refine TL.p (EvP.lenS Tryd.runUnderlying22 rfl) ?_
          refine TL.p (EvP.assign rfl) ?_
          refine TL.p (EvP.assign rfl) ?_
          refine TL.nil ?_
          refine TX.thenN rfl rfl ?_
          refine TC.ret ?_
          refine TX.thenR ?_
          refine TX.done rfl (Res.two rfl rfl rfl) (fun w hs => Post0.mk hs ?_ (by repeat (first | exact Le.refl _ | exact Le.nil _ | refine Le.hit ?_ | refine Le.hit1 ?_ | refine Le.hit2 ?_ | refine Le.hit3 ?_ | refine Le.hit4 ?_ | refine Le.hit5 ?_ | refine Le.hit6 ?_ | refine Le.hit7 ?_ | refine Le.hit8 ?_ | refine Le.hit9 ?_ | refine Le.hit10 ?_ | refine Le.skip ?_)))
          rw [hr, rgo_short (by omega) (by omega)]
        · refine TL.nil ?_
          refine TX.thenN rfl rfl ?_
          refine TC.cfalse rfl ?_
          refine TC.skip ?_
          refine TX.thenN rfl rfl ?_
          refine TC.seq ?_
          refine TC.region ?_
          refine TL.p (EvP.assign rfl) ?_
          refine TL.p (EvP.assign rfl) ?_
          refine TL.nil ?_
          refine TX.thenN rfl rfl ?_
          refine TC.ret ?_
          refine TX.done rfl (Res.two rfl rfl rfl) (fun w hs => Post0.mk hs ?_ (by repeat (first | exact Le.refl _ | exact Le.nil _ | refine Le.hit ?_ | refine Le.hit1 ?_ | refine Le.hit2 ?_ | refine Le.hit3 ?_ | refine Le.hit4 ?_ | refine Le.hit5 ?_ | refine Le.hit6 ?_ | refine Le.hit7 ?_ | refine Le.hit8 ?_ | refine Le.hit9 ?_ | refine Le.hit10 ?_ | refine Le.skip ?_)))
          rw [hr, rgo_ok (by omega) (by omega)]
end Go.Proofs.YtdbpandamnkpdaaDoor
