/-
  Rules for code: sequence, branches, blocks, loops, calls, returns; operations in their order.
-/
import Derived.Test.YtdbpandamnkpdaaDoorBa
set_option linter.unusedSimpArgs false
set_option linter.unusedVariables false
namespace Go.Proofs.YtdbpandamnkpdaaDoor
open Go Go.RowKit

abbrev fen (rd : Option Nat) : Fence := { fn := fun _ => True, depth := none, alive := false, round := rd }

structure Cx where
  P : Program
  rd : Option Nat
  N : Nat
  D : List Deferred
  w0 : World

def TC (c : Cx) (x : Code) (L : Fl) (H : List Chunk) (Q : Exit → Act → World → Prop) : Prop :=
  ∀ a w, Fr a c.D c.N L → St c.w0 w H → x.wpIn (fen c.rd) 0 c.P Q a w
def TL (c : Cx) (ops : Array Oper) (Q : Exit → Act → World → Prop) (l : List Oper) (L : Fl) (H : List Chunk) : Prop :=
  ∀ a w, Fr a c.D c.N L → St c.w0 w H → wpListIn (fen c.rd) 0 c.P ops Q l a w
def TX (c : Cx) (e : Exit) (L : Fl) (H : List Chunk) (Q : Exit → Act → World → Prop) : Prop :=
  ∀ a w, Fr a c.D c.N L → St c.w0 w H → Q e a w

/-! ### which blocks are kept -/
def Le (H' H : List Chunk) : Prop := ∃ K : List Chunk, (H' ++ K).flatten.Perm H.flatten
theorem Le.refl (H : List Chunk) : Le H H := ⟨[], by simp⟩
theorem Le.nil (H : List Chunk) : Le [] H := ⟨H, by simp⟩
theorem Le.hit {H' H C} (h : Le H' H) : Le (C :: H') (C :: H) := by
  obtain ⟨K, h⟩ := h
  exact ⟨K, by simpa using h.append_left C⟩
theorem Le.skip {H' H C} (h : Le H' H) : Le H' (C :: H) := by
  obtain ⟨K, h⟩ := h
  refine ⟨C :: K, ?_⟩
  simp only [List.flatten_append, List.flatten_cons] at h ⊢
  refine List.Perm.trans ?_ (h.append_left C)
  rw [← List.append_assoc, ← List.append_assoc]
  exact List.perm_append_comm.append_right _
theorem Le.trans {A B C : List Chunk} (h : Le A B) (k : Le B C) : Le A C := by
  obtain ⟨K, h⟩ := h
  obtain ⟨K', k⟩ := k
  refine ⟨K ++ K', ?_⟩
  simp only [List.flatten_append] at h k ⊢
  rw [← List.append_assoc]
  exact (h.append_right _).trans k
theorem Le.swap {A B H} : Le (A :: B :: H) (B :: A :: H) := ⟨[], by
  simp only [List.append_nil, List.flatten_cons]
  rw [← List.append_assoc, ← List.append_assoc]
  exact List.perm_append_comm.append_right _⟩
theorem Le.hit1 {H' H C A} (h : Le H' (A :: H)) : Le (C :: H') (A :: C :: H) := (Le.hit h).trans .swap
theorem Le.hit2 {H' H C A B} (h : Le H' (A :: B :: H)) : Le (C :: H') (A :: B :: C :: H) := (Le.hit1 h).trans (Le.hit .swap)
theorem Le.hit3 {H' H C A B D} (h : Le H' (A :: B :: D :: H)) : Le (C :: H') (A :: B :: D :: C :: H) := (Le.hit2 h).trans (Le.hit (Le.hit .swap))
theorem Le.hit4 {H' H C A B D E} (h : Le H' (A :: B :: D :: E :: H)) : Le (C :: H') (A :: B :: D :: E :: C :: H) := (Le.hit3 h).trans (Le.hit (Le.hit (Le.hit .swap)))
theorem Le.hit5 {H' H C A B D E G} (h : Le H' (A :: B :: D :: E :: G :: H)) : Le (C :: H') (A :: B :: D :: E :: G :: C :: H) := (Le.hit4 h).trans (Le.hit (Le.hit (Le.hit (Le.hit .swap))))
theorem Le.hit6 {H' H C A B D E G I} (h : Le H' (A :: B :: D :: E :: G :: I :: H)) : Le (C :: H') (A :: B :: D :: E :: G :: I :: C :: H) := (Le.hit5 h).trans (Le.hit (Le.hit (Le.hit (Le.hit (Le.hit .swap)))))
theorem Le.hit7 {H' H C A B D E G I J} (h : Le H' (A :: B :: D :: E :: G :: I :: J :: H)) : Le (C :: H') (A :: B :: D :: E :: G :: I :: J :: C :: H) := (Le.hit6 h).trans (Le.hit (Le.hit (Le.hit (Le.hit (Le.hit (Le.hit .swap))))))
theorem Le.hit8 {H' H C A B D E G I J K1} (h : Le H' (A :: B :: D :: E :: G :: I :: J :: K1 :: H)) : Le (C :: H') (A :: B :: D :: E :: G :: I :: J :: K1 :: C :: H) := (Le.hit7 h).trans (Le.hit (Le.hit (Le.hit (Le.hit (Le.hit (Le.hit (Le.hit .swap)))))))
theorem Le.hit9 {H' H C A B D E G I J K1 K2} (h : Le H' (A :: B :: D :: E :: G :: I :: J :: K1 :: K2 :: H)) : Le (C :: H') (A :: B :: D :: E :: G :: I :: J :: K1 :: K2 :: C :: H) := (Le.hit8 h).trans (Le.hit (Le.hit (Le.hit (Le.hit (Le.hit (Le.hit (Le.hit (Le.hit .swap))))))))
theorem Le.hit10 {H' H C A B D E G I J K1 K2 K3} (h : Le H' (A :: B :: D :: E :: G :: I :: J :: K1 :: K2 :: K3 :: H)) : Le (C :: H') (A :: B :: D :: E :: G :: I :: J :: K1 :: K2 :: K3 :: C :: H) := (Le.hit9 h).trans (Le.hit (Le.hit (Le.hit (Le.hit (Le.hit (Le.hit (Le.hit (Le.hit (Le.hit .swap)))))))))
theorem Le.hit11 {H' H C A B D E G I J K1 K2 K3 K4} (h : Le H' (A :: B :: D :: E :: G :: I :: J :: K1 :: K2 :: K3 :: K4 :: H)) : Le (C :: H') (A :: B :: D :: E :: G :: I :: J :: K1 :: K2 :: K3 :: K4 :: C :: H) := (Le.hit10 h).trans (Le.hit (Le.hit (Le.hit (Le.hit (Le.hit (Le.hit (Le.hit (Le.hit (Le.hit (Le.hit .swap))))))))))
theorem Le.hit12 {H' H C A B D E G I J K1 K2 K3 K4 K5} (h : Le H' (A :: B :: D :: E :: G :: I :: J :: K1 :: K2 :: K3 :: K4 :: K5 :: H)) : Le (C :: H') (A :: B :: D :: E :: G :: I :: J :: K1 :: K2 :: K3 :: K4 :: K5 :: C :: H) := (Le.hit11 h).trans (Le.hit (Le.hit (Le.hit (Le.hit (Le.hit (Le.hit (Le.hit (Le.hit (Le.hit (Le.hit (Le.hit .swap)))))))))))
/-- Two chunks in one. -/
theorem Le.join {H' H A B} (h : Le H' ((A ++ B) :: H)) : Le H' (A :: B :: H) := h.trans ⟨[], by simp⟩
theorem Le.part {H' H A B} (h : Le H' (A :: B :: H)) : Le H' ((A ++ B) :: H) := h.trans ⟨[], by simp⟩
theorem Le.parts {H' H x y r} (h : Le H' ([x] :: (y :: r) :: H)) : Le H' ((x :: y :: r) :: H) := h.trans ⟨[], by simp⟩
theorem Le.joins {H' H x r} (h : Le H' ((x :: r) :: H)) : Le H' ([x] :: r :: H) := h.trans ⟨[], by simp⟩

theorem St.le {w0 w : World} {H H' : List Chunk} (h : St w0 w H) (hl : Le H' H) : St w0 w H' := by
  obtain ⟨K, hp⟩ := hl
  exact St.keep (St.perm h hp)

theorem TC.le {c x L H H' Q} (hl : Le H' H) (h : TC c x L H' Q) : TC c x L H Q := fun a w hf hs => h a w hf (hs.le hl)
theorem TL.le {c ops Q l L H H'} (hl : Le H' H) (h : TL c ops Q l L H') : TL c ops Q l L H := fun a w hf hs => h a w hf (hs.le hl)
theorem TX.le {c e L H H' Q} (hl : Le H' H) (h : TX c e L H' Q) : TX c e L H Q := fun a w hf hs => h a w hf (hs.le hl)
theorem TC.sub {c x L L' H Q} (hl : Sub L' L) (h : TC c x L' H Q) : TC c x L H Q := fun a w hf hs => h a w (hf.weak hl) hs
theorem TL.sub {c ops Q l L L' H} (hl : Sub L' L) (h : TL c ops Q l L' H) : TL c ops Q l L H := fun a w hf hs => h a w (hf.weak hl) hs
theorem TX.sub {c e L L' H Q} (hl : Sub L' L) (h : TX c e L' H Q) : TX c e L H Q := fun a w hf hs => h a w (hf.weak hl) hs

/-! ### code -/
theorem TC.seq {c x y L H Q} (h : TC c x L H (Exit.then (fun a w => y.wpIn (fen c.rd) 0 c.P Q a w) Q)) : TC c (.seq x y) L H Q :=
  fun a w hf hs => wpIn_seq (h a w hf hs)
theorem TC.skip {c L H Q} (h : TX c .normal L H Q) : TC c .skip L H Q := fun a w hf hs => wpIn_skip (h a w hf hs)
theorem TC.label {c l L H Q} (h : TX c .normal L H Q) : TC c (.label l) L H Q := fun a w hf hs => wpIn_label (h a w hf hs)
theorem TC.ret {c L H Q} (h : TX c .ret L H Q) : TC c .ret L H Q := fun a w hf hs => wpIn_ret (h a w hf hs)
theorem TC.exit {c id L H Q} (h : TX c (.exit id) L H Q) : TC c (.exit id) L H Q := fun a w hf hs => wpIn_exit (h a w hf hs)
theorem TC.block {c id x L H Q} (h : TC c x L H (Exit.inBlock id Q)) : TC c (.block id x) L H Q := fun a w hf hs => wpIn_block (h a w hf hs)
theorem TC.region {c id L H Q} {l : List Oper} (h : TL c l.toArray Q l L H) : TC c (.region id l.toArray false) L H Q :=
  fun a w hf hs => wpIn_region_lit (h a w hf hs)
theorem TC.ctrue {c x y z L H Q} (hc : ev L x = some (.bool true)) (h : TC c y L H Q) : TC c (.cond x y z) L H Q :=
  fun a w hf hs => wpIn_cond_true (hf.ev hc) (h a w hf hs)
theorem TC.cfalse {c x y z L H Q} (hc : ev L x = some (.bool false)) (h : TC c z L H Q) : TC c (.cond x y z) L H Q :=
  fun a w hf hs => wpIn_cond_false (hf.ev hc) (h a w hf hs)
theorem TC.cond {c x y z L H Q} {b : Bool} (hc : ev L x = some (.bool b)) (ht : b = true → TC c y L H Q) (hf : b = false → TC c z L H Q) : TC c (.cond x y z) L H Q :=
  fun a w ha hs => wpIn_cond_split (ha.ev hc) (fun e => ht e a w ha hs) (fun e => hf e a w ha hs)

theorem TX.thenN {c c' : Cx} {y L H Q Q'} (hP : c'.P = c.P) (hr : c'.rd = c.rd) (h : TC c y L H Q) : TX c .normal L H (Exit.then (fun a w => y.wpIn (fen c'.rd) 0 c'.P Q a w) Q') := by
  intro a w hf hs
  simp only [Exit.then, hP, hr]
  exact h a w hf hs
theorem TX.thenE {c id K L H Q} (h : TX c (.exit id) L H Q) : TX c (.exit id) L H (Exit.then K Q) := fun a w hf hs => h a w hf hs
theorem TX.thenR {c K L H Q} (h : TX c .ret L H Q) : TX c .ret L H (Exit.then K Q) := fun a w hf hs => h a w hf hs
theorem TX.blkN {c id L H Q} (h : TX c .normal L H Q) : TX c .normal L H (Exit.inBlock id Q) := fun a w hf hs => h a w hf hs
theorem TX.blkR {c id L H Q} (h : TX c .ret L H Q) : TX c .ret L H (Exit.inBlock id Q) := fun a w hf hs => h a w hf hs
theorem TX.blkH {c id L H Q} (h : TX c .normal L H Q) : TX c (.exit id) L H (Exit.inBlock id Q) := fun a w hf hs => by
  simp only [Exit.inBlock, if_true]
  exact h a w hf hs
theorem TX.blkM {c id id' L H Q} (hne : Nat.beq id' id = false) (h : TX c (.exit id') L H Q) : TX c (.exit id') L H (Exit.inBlock id Q) := fun a w hf hs => by
  have : id' ≠ id := fun e => by subst e; rw [Nat.beq_refl] at hne; cases hne
  simp only [Exit.inBlock, if_neg this]
  exact h a w hf hs

def Back (c : Cx) {ι : Type} (Lf : ι → Fl) (Hf : ι → List Chunk) (φ : ι → Prop) (μ : ι → Nat) (i : ι) (a : Act) (w : World) : Prop :=
  ∃ j, φ j ∧ μ j < μ i ∧ Fr a c.D c.N (Lf j) ∧ St c.w0 w (Hf j)

theorem least {p : Nat → Prop} (h : ∃ k, p k) : ∃ k, p k ∧ ∀ j, p j → k ≤ j := by
  classical
  obtain ⟨k, hk⟩ := h
  induction k using Nat.strongRecOn with
  | _ k ih =>
    by_cases e : ∃ j, j < k ∧ p j
    · obtain ⟨j, h1, h2⟩ := e
      exact ih j h1 h2
    · refine ⟨k, hk, fun j hj => ?_⟩
      rcases Nat.lt_or_ge j k with h1 | h1
      · exact absurd ⟨j, h1, hj⟩ e
      · exact h1

theorem TC.loop {c body L H Q} {ι : Type} (Lf : ι → Fl) (Hf : ι → List Chunk) (φ : ι → Prop) (μ : ι → Nat) (i0 : ι) (h0 : φ i0) (hL : Sub (Lf i0) L) (hH : Le (Hf i0) H)
    (round : ∀ i, φ i → TC c body (Lf i) (Hf i) (Exit.then (Back c Lf Hf φ μ i) Q)) : TC c (.loop body) L H Q := by
  classical
  intro a w hf hs
  let I : Act → World → Prop := fun a w => ∃ i, φ i ∧ Fr a c.D c.N (Lf i) ∧ St c.w0 w (Hf i)
  -- the least measure of an index that fits
  let m : Act → World → Nat → Prop := fun a w k => ∃ i, φ i ∧ Fr a c.D c.N (Lf i) ∧ St c.w0 w (Hf i) ∧ μ i = k
  have hex : ∀ a w, I a w → ∃ k, m a w k := fun a w ⟨i, h1, h2, h3⟩ => ⟨μ i, i, h1, h2, h3, rfl⟩
  let M : Act → World → Nat := fun a w => if h : ∃ k, m a w k then (least h).choose else 0
  refine wpIn_loop I M ⟨i0, h0, hf.weak hL, hs.le hH⟩ ?_
  intro a w hI
  have hx := hex a w hI
  have hM : M a w = (least hx).choose := by simp only [M]; rw [dif_pos hx]
  obtain ⟨i, h1, h2, h3, h4⟩ := (least hx).choose_spec.1
  refine wpIn_mono (round i h1 a w h2 h3) ?_
  intro e a' w' hq
  cases e with
  | normal =>
    obtain ⟨j, k1, k2, k3, k4⟩ := hq
    refine ⟨⟨j, k1, k3, k4⟩, ?_⟩
    have hx' := hex a' w' ⟨j, k1, k3, k4⟩
    have hM' : M a' w' = (least hx').choose := by simp only [M]; rw [dif_pos hx']
    have hle : (least hx').choose ≤ μ j := (least hx').choose_spec.2 _ ⟨j, k1, k3, k4, rfl⟩
    rw [hM, hM', ← h4]
    omega
  | exit id => exact hq
  | goto l => exact hq
  | ret => exact hq
  | panic ch => exact hq
  | outgrown => exact hq

theorem TX.back {c L H Q} {ι : Type} {Lf : ι → Fl} {Hf : ι → List Chunk} {φ : ι → Prop} {μ : ι → Nat} {i : ι} (j : ι) (hφ : φ j) (hμ : μ j < μ i) (hL : Sub (Lf j) L) (hH : Le (Hf j) H) :
    TX c .normal L H (Exit.then (Back c Lf Hf φ μ i) Q) :=
  fun a w hf hs => ⟨j, hφ, hμ, hf.weak hL, hs.le hH⟩

/-! ### operations -/
theorem TL.nil {c ops Q L H} (h : TX c .normal L H Q) : TL c ops Q [] L H := fun a w hf hs => wpListIn_nil (h a w hf hs)

def isDefer : Op → Bool | .defer _ => true | _ => false
theorem semAt_plain {rd ρ} {o : Oper} (h : isDefer o.op = false) : Oper.semAt rd ρ o = execOp ρ o :=
  Oper.semAt_eq rd ρ o (fun c e => by rw [e] at h; cases h)

def Knows (ρ : Operand → Value) (L : Fl) : Prop := ∀ x u, ev L x = some u → ρ x = u

/-- What an operation that only looks answers. -/
def EvR (P : Program) (op : Op) (ty : TypeId) (L : Fl) (S : World → Prop) (v : Value) : Prop :=
  ∀ ρ, Knows ρ L → ∀ w, S w → ∀ dst pos aft g, (execOp ρ ⟨dst, op, ty, pos, aft, g⟩).run P w = .ok (.value v) w
/-- .. that looks at its operands alone. -/
def EvP (P : Program) (op : Op) (ty : TypeId) (L : Fl) (v : Value) : Prop :=
  ∀ ρ, Knows ρ L → ∀ w dst pos aft g, (execOp ρ ⟨dst, op, ty, pos, aft, g⟩).run P w = .ok (.value v) w
theorem EvP.r {P op ty L v} (h : EvP P op ty L v) {S} : EvR P op ty L S v := fun ρ hk w _ dst pos aft g => h ρ hk w dst pos aft g

/-- An operation that acts: what it answers, and which blocks there are then. -/
def EvW (P : Program) (op : Op) (ty : TypeId) (L : Fl) (w0 : World) (H : List Chunk) (post : Value → List Chunk → Prop) : Prop :=
  ∀ ρ, Knows ρ L → ∀ w, St w0 w H → ∀ dst pos aft g, ∃ v w' H', (execOp ρ ⟨dst, op, ty, pos, aft, g⟩).run P w = .ok (.value v) w' ∧ post v H' ∧ St w0 w' H'
/-- .. that answers nothing. -/
def EvU (P : Program) (op : Op) (ty : TypeId) (L : Fl) (w0 : World) (H H' : List Chunk) : Prop :=
  ∀ ρ, Knows ρ L → ∀ w, St w0 w H → ∀ dst pos aft g, ∃ w', (execOp ρ ⟨dst, op, ty, pos, aft, g⟩).run P w = .ok .skip w' ∧ St w0 w' H'

theorem Fr.knows {a : Act} {D N L} (h : Fr a D N L) : Knows a.eval L := fun _ _ e => h.ev e

theorem wpl_step {rd P ops Q a w rest} {o : Oper} (hg : o.guard = none) (hd : isDefer o.op = false)
    (h : o.uponIn (fen rd) 0 P a (wpListIn (fen rd) 0 P ops Q rest) Q ((execOp a.eval o).run P w)) : wpListIn (fen rd) 0 P ops Q (o :: rest) a w := by
  simp only [wpListIn, Region.wanted, hg, if_true, Oper.wpIn]
  refine ⟨fun _ _ => trivial, ?_⟩
  rw [semAt_plain hd]
  exact h

theorem TL.r {c ops Q d op ty pos aft rest L H v} (hv : EvR c.P op ty L (fun w => St c.w0 w H) v) (k : TL c ops Q rest ((d, v) :: L) H)
    (hd : Nat.blt d c.N = true := by rfl) (hn : isDefer op = false := by rfl) : TL c ops Q (⟨some d, op, ty, pos, aft, none⟩ :: rest) L H := by
  intro a w hf hs
  refine wpl_step rfl hn ?_
  rw [hv a.eval hf.knows w hs]
  exact k _ _ (hf.put hd v) hs
theorem TL.p {c ops Q d op ty pos aft rest L H v} (hv : EvP c.P op ty L v) (k : TL c ops Q rest ((d, v) :: L) H)
    (hd : Nat.blt d c.N = true := by rfl) (hn : isDefer op = false := by rfl) : TL c ops Q (⟨some d, op, ty, pos, aft, none⟩ :: rest) L H := TL.r hv.r k hd hn
/-- The same, where nothing takes the answer. -/
theorem TL.r0 {c ops Q op ty pos aft rest L H v} (hv : EvR c.P op ty L (fun w => St c.w0 w H) v) (k : TL c ops Q rest L H)
    (hn : isDefer op = false := by rfl) : TL c ops Q (⟨none, op, ty, pos, aft, none⟩ :: rest) L H := by
  intro a w hf hs
  refine wpl_step rfl hn ?_
  rw [hv a.eval hf.knows w hs]
  exact k _ _ hf hs
theorem TL.w {c ops Q d op ty pos aft rest L H post} (hv : EvW c.P op ty L c.w0 H post) (k : ∀ v H', post v H' → TL c ops Q rest ((d, v) :: L) H')
    (hd : Nat.blt d c.N = true := by rfl) (hn : isDefer op = false := by rfl) : TL c ops Q (⟨some d, op, ty, pos, aft, none⟩ :: rest) L H := by
  intro a w hf hs
  refine wpl_step rfl hn ?_
  obtain ⟨v, w', H', hr, hp, hs'⟩ := hv a.eval hf.knows w hs (some d) pos aft none
  rw [hr]
  exact k v H' hp _ _ (hf.put hd v) hs'
theorem TL.w0 {c ops Q op ty pos aft rest L H post} (hv : EvW c.P op ty L c.w0 H post) (k : ∀ v H', post v H' → TL c ops Q rest L H')
    (hn : isDefer op = false := by rfl) : TL c ops Q (⟨none, op, ty, pos, aft, none⟩ :: rest) L H := by
  intro a w hf hs
  refine wpl_step rfl hn ?_
  obtain ⟨v, w', H', hr, hp, hs'⟩ := hv a.eval hf.knows w hs none pos aft none
  rw [hr]
  exact k v H' hp _ _ hf hs'
theorem TL.u {c ops Q op ty pos aft rest L H H'} (hv : EvU c.P op ty L c.w0 H H') (k : TL c ops Q rest L H')
    (hn : isDefer op = false := by rfl) : TL c ops Q (⟨none, op, ty, pos, aft, none⟩ :: rest) L H := by
  intro a w hf hs
  refine wpl_step rfl hn ?_
  obtain ⟨w', hr, hs'⟩ := hv a.eval hf.knows w hs none pos aft none
  rw [hr]
  exact k _ _ hf hs'

/-! ### guards -/
theorem yielded_of {ops : Array Oper} {a : Act} {D N L j t b} (hf : Fr a D N L) (hg : (ops[j]?).bind (·.dst) = some t) (ht : flGet L t = some (.bool b)) : yielded ops a.tmps j = some b := by
  have := hf.get t _ ht
  simp [yielded, hg, this]
theorem TL.gY {c ops Q dst op ty pos aft rest L H j want t b} (hg : (ops[j]?).bind (·.dst) = some t) (ht : flGet L t = some (.bool b)) (hb : (b == want) = true)
    (k : TL c ops Q (⟨dst, op, ty, pos, aft, none⟩ :: rest) L H) : TL c ops Q (⟨dst, op, ty, pos, aft, some (j, want)⟩ :: rest) L H := by
  intro a w hf hs
  have hk := k a w hf hs
  have hy := yielded_of hf hg ht
  have hb' : b = want := by simpa using hb
  subst hb'
  simp only [wpListIn, Region.wanted, hy, beq_self_eq_true, if_true] at hk ⊢
  exact hk
theorem TL.gN {c ops Q d op ty pos aft rest L H j want t b} (hg : (ops[j]?).bind (·.dst) = some t) (ht : flGet L t = some (.bool b)) (hb : (b == want) = false)
    (k : TL c ops Q rest ((d, undef) :: L) H) (hd : Nat.blt d c.N = true := by rfl) : TL c ops Q (⟨some d, op, ty, pos, aft, some (j, want)⟩ :: rest) L H := by
  intro a w hf hs
  have hy := yielded_of hf hg ht
  have hw : (some b == some want) = false := by simpa using hb
  simp only [wpListIn, Region.wanted, hy, hw, Bool.false_eq_true, if_false]
  exact ⟨fun _ _ => trivial, k _ _ (hf.put hd _) hs⟩
theorem TL.gN0 {c ops Q op ty pos aft rest L H j want t b} (hg : (ops[j]?).bind (·.dst) = some t) (ht : flGet L t = some (.bool b)) (hb : (b == want) = false)
    (k : TL c ops Q rest L H) : TL c ops Q (⟨none, op, ty, pos, aft, some (j, want)⟩ :: rest) L H := by
  intro a w hf hs
  have hy := yielded_of hf hg ht
  have hw : (some b == some want) = false := by simpa using hb
  simp only [wpListIn, Region.wanted, hy, hw, Bool.false_eq_true, if_false]
  exact ⟨fun _ _ => trivial, k _ _ hf hs⟩

theorem unyielded_of {ops : Array Oper} {a : Act} {D N L j t} (hf : Fr a D N L) (hg : (ops[j]?).bind (·.dst) = some t) (ht : flGet L t = some undef) : yielded ops a.tmps j = none := by
  have := hf.get t _ ht
  simp [yielded, hg, this, undef]
theorem TL.gU {c ops Q d op ty pos aft rest L H j want t} (hg : (ops[j]?).bind (·.dst) = some t) (ht : flGet L t = some undef)
    (k : TL c ops Q rest ((d, undef) :: L) H) (hd : Nat.blt d c.N = true := by rfl) : TL c ops Q (⟨some d, op, ty, pos, aft, some (j, want)⟩ :: rest) L H := by
  intro a w hf hs
  have hy := unyielded_of hf hg ht
  have hw : ((none : Option Bool) == some want) = false := rfl
  simp only [wpListIn, Region.wanted, hy, hw, Bool.false_eq_true, if_false]
  exact ⟨fun _ _ => trivial, k _ _ (hf.put hd _) hs⟩
theorem TL.gU0 {c ops Q op ty pos aft rest L H j want t} (hg : (ops[j]?).bind (·.dst) = some t) (ht : flGet L t = some undef)
    (k : TL c ops Q rest L H) : TL c ops Q (⟨none, op, ty, pos, aft, some (j, want)⟩ :: rest) L H := by
  intro a w hf hs
  have hy := unyielded_of hf hg ht
  have hw : ((none : Option Bool) == some want) = false := rfl
  simp only [wpListIn, Region.wanted, hy, hw, Bool.false_eq_true, if_false]
  exact ⟨fun _ _ => trivial, k _ _ hf hs⟩

/-! ### calls -/
/-- What a call comes to: a value, and the blocks that it hands over beside the rest. -/
def Post (w0 : World) (R : List Chunk) (post : Value → List Chunk → Prop) (e : Ending) (w' : World) : Prop :=
  ∃ v Hq, e = .returned v ∧ post v Hq ∧ St w0 w' (Hq ++ R)

def evs (L : Fl) : List Operand → Option (List Value)
  | [] => some []
  | x :: xs => match ev L x, evs L xs with
    | some v, some vs => some (v :: vs)
    | _, _ => none

theorem evs_map {L : Fl} {ρ : Operand → Value} (hk : Knows ρ L) : ∀ {xs vs}, evs L xs = some vs → xs.map ρ = vs
  | [], vs, h => by simp only [evs, Option.some.injEq] at h; subst h; rfl
  | x :: xs, vs, h => by
    simp only [evs] at h
    split at h
    · rename_i v vs' hv hvs
      simp only [Option.some.injEq] at h
      subst h
      simp only [List.map_cons, hk x v hv, evs_map hk hvs]
    · cases h

theorem callsIn_of {rd : Option Nat} {P : Program} {f args w R} (h : Calls P f args w R) : CallsIn (fen rd) 0 P f args w R := by
  have h2 : CallsIn Fence.wide 0 P f args w R := callsIn_wide.2 h
  exact ⟨trivial, fun cs hr => h2.2 cs (room_wide _)⟩

theorem run_call {P : Program} {ρ L g f} {cap : List Value} {xs vs ats ty} (hk : Knows ρ L) (hg : ev L g = some (.func (.func f) #[] cap.toArray)) (hx : evs L xs = some vs)
    (hc : ∀ args w, (callFunc f args).run P w = .ok (.enter f args) w) (w : World) (dst pos aft gd) :
    (execOp ρ ⟨dst, .call { callee := .value g, args := xs.toArray, argTypes := ats }, ty, pos, aft, gd⟩).run P w = .ok (.enter f (vs ++ cap).toArray) w := by
  have h1 := hk g _ hg
  have h2 := evs_map hk hx
  simp only [execOp, resolve, h1, Deferred.ofValue, List.map_toArray, h2, Sem.run_bind, Sem.run_pure, Result.andThen_ok, invoke, Array.empty_append, List.append_toArray]
  exact hc _ _

theorem TL.call {c ops Q d g f} {cap : List Value} {xs vs ats ty pos aft rest L H R post} (hg : ev L g = some (.func (.func f) #[] cap.toArray)) (hx : evs L xs = some vs)
    (hc : ∀ args w, (callFunc f args).run c.P w = .ok (.enter f args) w)
    (hs : ∀ w, St c.w0 w H → Calls c.P f (vs ++ cap).toArray w (Post c.w0 R post))
    (k : ∀ v Hq, post v Hq → TL c ops Q rest ((d, v) :: L) (Hq ++ R)) (hd : Nat.blt d c.N = true := by rfl) :
    TL c ops Q (⟨some d, .call { callee := .value g, args := xs.toArray, argTypes := ats }, ty, pos, aft, none⟩ :: rest) L H := by
  intro a w hf hst
  refine wpl_step rfl rfl ?_
  rw [run_call hf.knows hg hx hc, Oper.uponIn_enter]
  refine ⟨fun h => (by cases h), callsIn_of ((hs w hst).mono ?_)⟩
  rintro e w' ⟨v, Hq, rfl, hp, hs'⟩
  exact k v Hq hp _ _ (hf.put hd v) hs'
theorem TL.call0 {c ops Q g f} {cap : List Value} {xs vs ats ty pos aft rest L H R post} (hg : ev L g = some (.func (.func f) #[] cap.toArray)) (hx : evs L xs = some vs)
    (hc : ∀ args w, (callFunc f args).run c.P w = .ok (.enter f args) w)
    (hs : ∀ w, St c.w0 w H → Calls c.P f (vs ++ cap).toArray w (Post c.w0 R post))
    (k : ∀ v Hq, post v Hq → TL c ops Q rest L (Hq ++ R)) :
    TL c ops Q (⟨none, .call { callee := .value g, args := xs.toArray, argTypes := ats }, ty, pos, aft, none⟩ :: rest) L H := by
  intro a w hf hst
  refine wpl_step rfl rfl ?_
  rw [run_call hf.knows hg hx hc, Oper.uponIn_enter]
  refine ⟨fun h => (by cases h), callsIn_of ((hs w hst).mono ?_)⟩
  rintro e w' ⟨v, Hq, rfl, hp, hs'⟩
  exact k v Hq hp _ _ hf hs'

/-! ### a function's contract out of its body -/
def argL : Nat → List Value → Fl
  | _, [] => []
  | k, v :: vs => (k, v) :: argL (k + 1) vs

theorem flGet_argL : ∀ (l : List Value) (k t : Nat) (v : Value), flGet (argL k l) t = some v → k ≤ t ∧ l[t - k]? = some v
  | [], _, _, _, h => by simp [argL, flGet] at h
  | u :: l, k, t, v, h => by
    by_cases e : k = t
    · subst e
      simp only [argL, flGet, Nat.beq_refl, cond_true, Option.some.injEq] at h
      subst h
      simp
    · simp only [argL, flGet, beq_no e, cond_false] at h
      obtain ⟨h1, h2⟩ := flGet_argL l (k + 1) t v h
      refine ⟨by omega, ?_⟩
      have : t - k = (t - (k + 1)) + 1 := by omega
      rw [this]
      simpa using h2

theorem calls_of {P : Program} {f : FuncId} {fn : Func} {x : Code} {args : List Value} {w0 w : World} {H : List Chunk} {R : Ending → World → Prop} {N : Nat}
    (hf : P.funcs[f]? = some fn) (hb : fn.body = some x) (hN : fn.ntmps = N) (hst : St w0 w H)
    (h : TC ⟨P, none, N, [], w0⟩ x (argL 0 args) H (bodyPostM (fen none) 0 P fn R)) (hle : Nat.ble args.length N = true := by rfl) : Calls P f args.toArray w R := by
  refine (callsIn_wide (n := 0)).1 ?_
  refine callsIn_of_wp_marks hf hb trivial ?_
  refine h _ _ ⟨rfl, ?_, ?_⟩ hst
  · have : args.length ≤ N := by simpa [Nat.ble_eq] using hle
    simp [hN]; omega
  · intro t v e
    obtain ⟨_, h2⟩ := flGet_argL args 0 t v e
    simp only [Nat.sub_zero] at h2
    have hlt : t < args.length := (List.getElem?_eq_some_iff.1 h2).1
    rw [Array.getElem?_append_left (by simpa using hlt)]
    simpa using h2

/-- What the results come to. -/
def Res (P : Program) (fn : Func) (L : Fl) (w0 : World) (H : List Chunk) (v : Value) : Prop :=
  ∀ (tmps : Array Value) (w : World), (∀ t u, flGet L t = some u → tmps[t]? = some u) → St w0 w H → (results fn tmps).run P w = .ok v w

theorem getD_of {tmps : Array Value} {t : Nat} {v : Value} (h : tmps[t]? = some v) : tmps.getD t undef = v := by simp [Array.getD_eq_getD_getElem?, h]

theorem Res.none {P fn L w0 H} (hr : fn.results = #[]) : Res P fn L w0 H (.tuple #[]) := fun tmps w _ _ => by simp [results, hr]
theorem Res.one {P fn L w0 H t v} (hr : fn.results = #[.tmp t]) (h : flGet L t = some v) : Res P fn L w0 H v := fun tmps w hk _ => by
  simp [results, hr, hk t v h]
theorem Res.two {P fn L w0 H t u v x} (hr : fn.results = #[.tmp t, .tmp u]) (h : flGet L t = some v) (h' : flGet L u = some x) : Res P fn L w0 H (.tuple #[v, x]) := fun tmps w hk _ => by
  simp [results, hr, hk t v h, hk u x h']
theorem Res.three {P fn L w0 H t u s v x y} (hr : fn.results = #[.tmp t, .tmp u, .tmp s]) (h : flGet L t = some v) (h' : flGet L u = some x) (h'' : flGet L s = some y) : Res P fn L w0 H (.tuple #[v, x, y]) := fun tmps w hk _ => by
  simp [results, hr, hk t v h, hk u x h', hk s y h'']

theorem TX.done {c : Cx} {fn R L H v} (hD : c.D = []) (hv : Res c.P fn L c.w0 H v) (hR : ∀ w, St c.w0 w H → R (.returned v) w) : TX c .ret L H (bodyPostM (fen none) 0 c.P fn R) := by
  intro a w hf hs
  show LeavesInM (fen none) 0 c.P fn a.tmps R a.defers .returning w
  rw [hf.defers, hD]
  exact ⟨v, hv a.tmps w hf.get hs, hR w hs⟩
theorem TX.doneN {c : Cx} {fn R L H v} (hD : c.D = []) (hv : Res c.P fn L c.w0 H v) (hR : ∀ w, St c.w0 w H → R (.returned v) w) : TX c .normal L H (bodyPostM (fen none) 0 c.P fn R) := by
  intro a w hf hs
  show LeavesInM (fen none) 0 c.P fn a.tmps R a.defers .returning w
  rw [hf.defers, hD]
  exact ⟨v, hv a.tmps w hf.get hs, hR w hs⟩

theorem Post.mk {w0 R post v Hq H} (hp : post v Hq) (hl : Le (Hq ++ R) H) : ∀ w, St w0 w H → Post w0 R post (.returned v) w :=
  fun _ hs => ⟨v, Hq, rfl, hp, hs.le hl⟩

end Go.Proofs.YtdbpandamnkpdaaDoor
