/-
  Strings as lists of bytes: length, bytes, comparisons; masks; a map's entry made and then filled.
-/
import Derived.Test.YtdbpandamnkpdaaDoorBl
import Derived.Laws.BitsLemmas
import Derived.Laws.BitsAllLaws
set_option linter.unusedSimpArgs false
set_option linter.unusedVariables false
set_option linter.unusedSectionVars false
namespace Go.Proofs.YtdbpandamnkpdaaDoor
open Go Go.RowKit

abbrev Str := List UInt8
abbrev sv (l : Str) : Value := Value.string ⟨l.toArray⟩

theorem sv_inj {a b : Str} : sv a = sv b ↔ a = b := by
  constructor
  · intro h
    simp only [sv, Value.string.injEq, ByteArray.mk.injEq] at h
    simpa using congrArg Array.toList h
  · rintro rfl; rfl
theorem ba_toList (l : Str) : (ByteArray.mk l.toArray).toList = l := by rw [ByteArray.toList_eq]
theorem sv_one (l : Str) : (sv l).oneCell' = true := rfl
theorem bytesLess_lt : ∀ a b : Str, Op.bytesLess a b = decide (a < b)
  | [], [] => rfl
  | _ :: _, [] => rfl
  | [], _ :: _ => rfl
  | a :: x, b :: y => by
    have ih := bytesLess_lt x y
    rw [Bool.eq_iff_iff]
    simp only [Op.bytesLess, ih, Bool.or_eq_true, Bool.and_eq_true, decide_eq_true_eq, beq_iff_eq, List.cons_lt_cons_iff]

section
variable {P : Program} {L : Fl} {ty ty' : TypeId}
theorem guardStr {op t x y a b} (w : World) : (eqGuard op t x y (.string a) (.string b)).run P w = .ok () w := by
  unfold eqGuard
  cases op <;> rfl
variable {t : TypeId} {x y : Operand} {a b : Str}
theorem EvP.lenL {u : TypeId} (hu : ∀ w, (underlying u).run P w = .ok .string w) (hx : ev L x = some (sv a)) :
    EvP P (.call { callee := .builtin .len, args := #[x], argTypes := #[u] }) ty L (.int .i64 a.length) := by
  have := EvP.lenStr (P := P) (ty := ty) hu hx
  simpa [ByteArray.size] using this
theorem EvP.eqS (hx : ev L x = some (sv a)) (hy : ev L y = some (sv b)) : EvP P (.binOp .eql t x y ty') ty L (.bool (decide (a = b))) := fun ρ hk w _ _ _ _ => by
  simp only [execOp, hk _ _ hx, hk _ _ hy, guardStr, binOp, Op.stringOp, Sem.run_bind, Sem.run_pure, Result.andThen_ok, ba_toList]
  by_cases h : a = b <;> simp [h]
theorem EvP.neS (hx : ev L x = some (sv a)) (hy : ev L y = some (sv b)) : EvP P (.binOp .neq t x y ty') ty L (.bool (decide (a ≠ b))) := fun ρ hk w _ _ _ _ => by
  simp only [execOp, hk _ _ hx, hk _ _ hy, guardStr, binOp, Op.stringOp, Sem.run_bind, Sem.run_pure, Result.andThen_ok, ba_toList]
  by_cases h : a = b <;> simp [h, bne]
theorem EvP.ltS (hx : ev L x = some (sv a)) (hy : ev L y = some (sv b)) : EvP P (.binOp .lss t x y ty') ty L (.bool (decide (a < b))) := fun ρ hk w _ _ _ _ => by
  simp only [execOp, hk _ _ hx, hk _ _ hy, guardStr, binOp, Op.stringOp, Sem.run_bind, Sem.run_pure, Result.andThen_ok, ba_toList, bytesLess_lt]
theorem le_or (a b : Str) : (decide (a < b) || a == b) = decide (¬ b < a) := by
  rw [Bool.eq_iff_iff]
  simp only [Bool.or_eq_true, decide_eq_true_eq, beq_iff_eq]
  constructor
  · rintro (h | rfl)
    · exact fun h' => absurd (List.lt_trans h h') (List.lt_irrefl _)
    · exact List.lt_irrefl _
  · intro h
    by_cases h1 : a < b
    · exact .inl h1
    · exact .inr (List.le_antisymm h h1)
theorem EvP.gtS (hx : ev L x = some (sv a)) (hy : ev L y = some (sv b)) : EvP P (.binOp .gtr t x y ty') ty L (.bool (decide (b < a))) := fun ρ hk w _ _ _ _ => by
  simp only [execOp, hk _ _ hx, hk _ _ hy, guardStr, binOp, Op.stringOp, Sem.run_bind, Sem.run_pure, Result.andThen_ok, ba_toList, bytesLess_lt, le_or]
  by_cases h : b < a <;> simp [h]
theorem EvP.geS (hx : ev L x = some (sv a)) (hy : ev L y = some (sv b)) : EvP P (.binOp .geq t x y ty') ty L (.bool (decide (¬ a < b))) := fun ρ hk w _ _ _ _ => by
  simp only [execOp, hk _ _ hx, hk _ _ hy, guardStr, binOp, Op.stringOp, Sem.run_bind, Sem.run_pure, Result.andThen_ok, ba_toList, bytesLess_lt]
  by_cases h : a < b <;> simp [h]
theorem EvP.idxS {i : Operand} {q : IntKind} {j : Int} {c : UInt8} (hu : ∀ w, (underlying t).run P w = .ok .string w) (hx : ev L x = some (sv a)) (hi : ev L i = some (.int q j)) (h0 : 0 ≤ j) (hc : a[j.toNat]? = some c) :
    EvP P (.index t x i) ty L (.int .u8 c.toNat) := fun ρ hk w _ _ _ _ => by
  have hlt := (List.getElem?_eq_some_iff.1 hc).1
  have hb : (ByteArray.mk a.toArray)[j.toNat]? = some c := by
    have : j.toNat < (ByteArray.mk a.toArray).size := by simpa [ByteArray.size] using hlt
    rw [getElem?_pos (ByteArray.mk a.toArray) j.toNat this]
    have h2 := (List.getElem?_eq_some_iff.1 hc).2
    simp [ByteArray.getElem_eq_getElem_data, h2]
  simp [execOp, hk _ _ hx, hk _ _ hi, Instr.index, asIntOf, hu, h0, hb]

/-! ### bits -/
theorem EvP.bit {op : BinOp} {k : IntKind} {m n r : Int} (hop : op = .and ∨ op = .or ∨ op = .xor ∨ op = .andNot) (hx : ev L x = some (.int k m)) (hy : ev L y = some (.int k n)) (hr : bits op k m n = r) : EvP P (.binOp op t x y ty') ty L (.int k r) := fun ρ hk w _ _ _ _ => by
  subst hr
  rcases hop with rfl | rfl | rfl | rfl <;> simp [execOp, hk _ _ hx, hk _ _ hy, guardInt, binOp, Op.intBits, bits]
theorem i64_mask (j : Nat) (x : Int) (hj : j ≤ 62) (h0 : 0 ≤ x) (h1 : x < 4611686018427387904) : bits .and .i64 x (2 ^ j - 1) = x % 2 ^ j := by
  exact bits_mask .i64 62 (by decide) (fun n h h' => IntWalk.i64_in n (by omega)) j (by omega) x h0 (by simpa using h1)
set_option maxRecDepth 100000 in
theorem lead_mask : ∀ b : Fin 256, (bits .and .u8 ((b.val : Nat) : Int) 192 ≠ 128) = ¬(128 ≤ b.val ∧ b.val ≤ 191) := by decide +kernel
end

section
variable {κ : Type} [DecidableEq κ] {ke : κ → Value}
theorem KL.strL {P : Program} {kt : TypeId} (hd : ∀ w, (underlying kt).run P w = .ok .string w) : KL P kt (fun s : Str => sv s) where
  check := fun b k w => (KL.str hd).check b ⟨k.toArray⟩ w
  find := findNow_of hd fun a b => by
    simp only [sv, Instr.sameNow, ba_beq]
    congr 1
    rw [decide_eq_decide]
    exact ⟨fun h => by simpa using congrArg (fun x : ByteArray => x.data.toList) h, fun h => by rw [h]⟩
  same := fun k => by simp [Instr.sameBits, ba_beq]

variable {P : Program} {L : Fl} {ty : TypeId} {w0 : World} {H H' R : List Chunk} {S : World → Prop} {kt et t : TypeId}
/-- An entry is made: a new key's. -/
theorem EvW.entryNew {x i : Operand} {b : Nat} {es : List (Ent κ)} {clk : Nat} {k : κ} {z : Value} (K : KL P kt ke) (ht : ∀ w, (underlying t).run P w = .ok (.map kt et) w) (hz : ∀ w, (zeroValue et).run P w = .ok z w) (hx : ev L x = some (.map (some b))) (hi : ev L i = some (ke k))
    (hn : valOf k es = none) (hu : Upd H b (mapObj ke es clk) (mapObj ke (es ++ [(k, z, clk)]) (clk + 1)) H') : EvW P (.mapEntry t x i) ty L w0 H (fun u H'' => u = .tuple #[z, .int .i64 clk] ∧ H'' = H') := fun ρ hk w hs _ _ _ _ => by
  have hb := hs.has hu.has
  have hg : (getObj b).run P w = .ok (.map (es.map (mkE ke)).toArray clk) w := run_getObj hb
  have hso : ∀ o, (setObj b o).run P w = .ok () (w.putObj b o) := fun o => run_setObj o hb
  refine ⟨_, _, H', ?_, ⟨rfl, rfl⟩, hs.upd hu⟩
  have hr : (Instr.mapEntry t (.map (some b)) (ke k)).run P w = .ok (.tuple #[z, .int .i64 clk]) (w.putObj b (mapObj ke (es ++ [(k, z, clk)]) (clk + 1))) := by
    unfold Instr.mapEntry
    simp only [Sem.run_bind, ht, Result.andThen_ok, hg, K.check, List.toList_toArray, K.find, valOf_none hn, hz, hso, Sem.run_pure]
    simp [goInt, mapObj, mkE]
  simp [execOp, hk _ _ hx, hk _ _ hi, hr]
/-- .. and filled, while it is the youngest. -/
theorem EvU.entryStore {x s y : Operand} {b : Nat} {es : List (Ent κ)} {clk : Nat} {k : κ} {z v : Value} (hx : ev L x = some (.map (some b))) (hs1 : ev L s = some (.int .i64 clk)) (hy : ev L y = some v) (hS : Stamped es clk)
    (hu : Upd H b (mapObj ke (es ++ [(k, z, clk)]) (clk + 1)) (mapObj ke (es ++ [(k, v, clk)]) (clk + 1)) H') : EvU P (.entryStore t x s y) ty L w0 H H' := fun ρ hk w hs _ _ _ _ => by
  have hb := hs.has hu.has
  have hg : (getObj b).run P w = .ok (.map ((es ++ [(k, z, clk)]).map (mkE ke)).toArray (clk + 1)) w := run_getObj hb
  have hso : ∀ o, (setObj b o).run P w = .ok () (w.putObj b o) := fun o => run_setObj o hb
  have hfind : (((es ++ [(k, z, clk)]).map (mkE ke)).toArray.findIdx? fun e => (e.born : Int) == (clk : Int)) = some es.length := by
    rw [List.findIdx?_toArray, List.map_append, List.findIdx?_append]
    have h0 : (es.map (mkE ke)).findIdx? (fun e => (e.born : Int) == (clk : Int)) = none := by
      rw [List.findIdx?_eq_none_iff]
      intro e he
      obtain ⟨e', he', rfl⟩ := List.mem_map.1 he
      have := hS.2 e' he'
      simp only [mkE, beq_eq_false_iff_ne, ne_eq]; omega
    rw [h0]
    simp [mkE]
  refine ⟨_, ?_, hs.upd hu⟩
  have hmod : ((es ++ [(k, z, clk)]).map (mkE ke)).toArray.modify es.length (fun e => { e with val := v }) = ((es ++ [(k, v, clk)]).map (mkE ke)).toArray := by
    apply Array.ext'
    rw [Array.toList_modify]
    simp only [List.map_append, List.map_cons, List.map_nil]
    apply List.ext_getElem?
    intro i
    rw [List.getElem?_modify]
    by_cases hi : i < es.length
    · have h1 : ∀ r : List MapEntry, (es.map (mkE ke) ++ r)[i]? = (es.map (mkE ke))[i]? := fun r => List.getElem?_append_left (by simpa using hi)
      rw [h1, h1]
      have hne : ¬ es.length = i := by omega
      simp [hne]
    · have h1 : ∀ r : List MapEntry, (es.map (mkE ke) ++ r)[i]? = r[i - es.length]? := fun r => by rw [List.getElem?_append_right (by simpa using hi), List.length_map]
      rw [h1, h1]
      by_cases he : i = es.length
      · subst he; simp [mkE]
      · have : ∀ m : MapEntry, [m][i - es.length]? = none := fun m => by simp; omega
        rw [this, this]; simp
  have hr : (Instr.entryStore t (.map (some b)) (.int .i64 clk) v).run P w = .ok () (w.putObj b (mapObj ke (es ++ [(k, v, clk)]) (clk + 1))) := by
    unfold Instr.entryStore
    have ha : (asInt (.int .i64 (clk : Int))).run P w = .ok (clk : Int) w := by simp [asInt, asIntOf]
    simp only [Sem.run_bind, Result.andThen_ok, hg, ha, hfind, hso, hmod]
    rfl
  simp [execOp, hk _ _ hx, hk _ _ hs1, hk _ _ hy, hr]
end
/-- What a callee leaves below. -/
theorem St.below {w0 w w' : World} {H : List Chunk} (h : St w0 w H) (hb : Below w.heap.size w w') : St w0 w' H := by
  have hle := h.base.size
  refine ⟨⟨hb.os.trans h.base.os, hb.tape.trans h.base.tape, hb.output.trans h.base.output, Nat.le_trans hle hb.size, fun k hk => (hb.block k (by omega)).trans (h.base.block k hk)⟩, h.nodup, fun x hx => ?_⟩
  obtain ⟨h1, h2⟩ := h.at_ x hx
  exact ⟨h1, (hb.block _ (heap_lt h2)).trans h2⟩
end Go.Proofs.YtdbpandamnkpdaaDoor
