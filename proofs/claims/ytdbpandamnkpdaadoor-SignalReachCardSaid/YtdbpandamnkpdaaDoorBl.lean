/-
  Look-ups whose answer is known; four blocks taken as one, and one as four; elements of a slice of one's own.
-/
import Derived.Test.YtdbpandamnkpdaaDoorBk
set_option linter.unusedSimpArgs false
set_option linter.unusedVariables false
namespace Go.Proofs.YtdbpandamnkpdaaDoor
open Go Go.RowKit

section
variable {P : Program} {L : Fl} {ty : TypeId} {w0 : World} {H R : List Chunk} {S : World → Prop} {κ : Type} [DecidableEq κ] {ke : κ → Value} {kt et t : TypeId}
theorem EvR.lookupY {x i : Operand} {b : Nat} {es : List (Ent κ)} {clk k v z} (K : KL P kt ke) (ht : ∀ w, (underlying t).run P w = .ok (.map kt et) w) (hz : ∀ w, (zeroValue et).run P w = .ok z w)
    (hv : valOf k es = some v) (hx : ev L x = some (.map (some b))) (hi : ev L i = some (ke k)) (hb : AtB S b (mapObj ke es clk)) : EvR P (.lookup t x i false) ty L S v := by
  have := EvR.lookup (ty := ty) K ht hz hx hi hb
  rw [hv] at this; exact this
theorem EvR.lookupN {x i : Operand} {b : Nat} {es : List (Ent κ)} {clk k z} (K : KL P kt ke) (ht : ∀ w, (underlying t).run P w = .ok (.map kt et) w) (hz : ∀ w, (zeroValue et).run P w = .ok z w)
    (hv : valOf k es = none) (hx : ev L x = some (.map (some b))) (hi : ev L i = some (ke k)) (hb : AtB S b (mapObj ke es clk)) : EvR P (.lookup t x i false) ty L S z := by
  have := EvR.lookup (ty := ty) K ht hz hx hi hb
  rw [hv] at this; exact this
theorem EvR.lookupOkY {x i : Operand} {b : Nat} {es : List (Ent κ)} {clk k v z} (K : KL P kt ke) (ht : ∀ w, (underlying t).run P w = .ok (.map kt et) w) (hz : ∀ w, (zeroValue et).run P w = .ok z w)
    (hv : valOf k es = some v) (hx : ev L x = some (.map (some b))) (hi : ev L i = some (ke k)) (hb : AtB S b (mapObj ke es clk)) : EvR P (.lookup t x i true) ty L S (.tuple #[v, .bool true]) := by
  have := EvR.lookupOk (ty := ty) K ht hz hx hi hb
  rw [hv] at this; exact this
theorem EvR.lookupOkN {x i : Operand} {b : Nat} {es : List (Ent κ)} {clk k z} (K : KL P kt ke) (ht : ∀ w, (underlying t).run P w = .ok (.map kt et) w) (hz : ∀ w, (zeroValue et).run P w = .ok z w)
    (hv : valOf k es = none) (hx : ev L x = some (.map (some b))) (hi : ev L i = some (ke k)) (hb : AtB S b (mapObj ke es clk)) : EvR P (.lookup t x i true) ty L S (.tuple #[z, .bool false]) := by
  have := EvR.lookupOk (ty := ty) K ht hz hx hi hb
  rw [hv] at this; exact this
end

/-! ### a struct of plain cells put together -/
section
variable {P : Program} {L : Fl} {ty : TypeId}
inductive SzF (P : Program) : List Field → Prop
  | nil : SzF P []
  | cons {f : Field} {fs : List Field} (h : ∀ w, (sizeOf f.type).run P w = .ok 1 w) (hr : SzF P fs) : SzF P (f :: fs)
def putAll (zs : List Value) : List (Nat × Value) → List Value
  | [] => zs
  | p :: r => putAll (zs.set p.1 p.2) r
theorem run_szs {fs : List Field} (h : SzF P fs) (w : World) : (fs.mapM fun f => Prod.mk f.offset <$> sizeOf f.type).run P w = .ok (fs.map fun f => (f.offset, 1)) w := by
  induction h with
  | nil => simp
  | cons h hr ih => simp [List.mapM_cons, h, ih]
theorem cells_one {v : Value} (h : v.oneCell' = true) : v.cells = #[v] := by cases v <;> first | rfl | cases h
theorem fill_one {places : List (Nat × Nat)} : ∀ (ps : List (Nat × Value)) (zs : List Value), (∀ p ∈ ps, p.2.oneCell' = true ∧ p.1 < zs.length ∧ places[p.1]? = some (p.1, 1)) →
    Instr.fill (places[·]?) zs.toArray ps = some (putAll zs ps).toArray
  | [], zs, _ => rfl
  | (i, v) :: ps, zs, h => by
    obtain ⟨h1, h2, h3⟩ := h (i, v) (by simp)
    simp only at h1 h2 h3
    have hc := cells_one h1
    simp only [Instr.fill, h3, hc]
    rw [if_neg (by simp; omega)]
    simp only [putAll]
    have : (#[v].zipIdx.foldl (fun (cs : Array Value) (x : Value × Nat) => cs.setIfInBounds (i + x.2) x.1) zs.toArray) = (zs.set i v).toArray := by simp
    rw [← fill_one ps (zs.set i v) fun p hp => by rw [List.length_set]; exact h p (List.mem_cons_of_mem _ hp)]
    rw [← this]
theorem EvP.buildS {t : TypeId} {is : List Nat} {xs : List Operand} {vs zs : List Value} {fs : Array Field} {z : Value} (hx : evs L xs = some vs) (hu : ∀ w, (underlying t).run P w = .ok (.struct fs) w) (hz : ∀ w, (zeroValue t).run P w = .ok z w) (hzc : z.cells = zs.toArray)
    (hS : SzF P fs.toList) (hO : (fs.toList.map fun f => (f.offset, 1)) = (List.range zs.length).map fun i => (i, 1)) (h1 : vs.all (·.oneCell') = true) (hlt : is.all (fun i => Nat.blt i zs.length) = true) :
    EvP P (.build t (is.zip xs).toArray) ty L (.agg (putAll zs (is.zip vs)).toArray) := EvP.build hx fun w => by
  have hf : Instr.fill (((List.range zs.length).map fun i => (i, 1))[·]?) zs.toArray (is.zip vs) = some (putAll zs (is.zip vs)).toArray := fill_one _ _ fun p hp => by
    have hm : p.1 ∈ is ∧ p.2 ∈ vs := List.of_mem_zip hp
    have h2 := List.all_eq_true.1 hlt p.1 hm.1
    simp only [Nat.blt_eq] at h2
    exact ⟨List.all_eq_true.1 h1 p.2 hm.2, h2, by rw [List.getElem?_map, List.getElem?_range h2]; rfl⟩
  simp [Instr.build, hz, hu, hzc, Array.mapM_eq_mapM_toList, run_szs hS, hO]
  rw [show (fun x : Nat => Option.map (fun i => (i, 1)) (List.range zs.length)[x]?) = (((List.range zs.length).map fun i => (i, 1))[·]?) from by funext x; rw [List.getElem?_map], hf]
  simp
end

section
variable {P : Program} {L : Fl} {ty : TypeId} {S : World → Prop}
theorem EvP.isT {op : Op} {p : Prop} [Decidable p] (h : EvP P op ty L (.bool (decide p))) (hp : p) : EvP P op ty L (.bool true) := by rwa [decide_eq_true hp] at h
theorem EvP.isF {op : Op} {p : Prop} [Decidable p] (h : EvP P op ty L (.bool (decide p))) (hp : ¬p) : EvP P op ty L (.bool false) := by rwa [decide_eq_false hp] at h
theorem EvP.isV {op : Op} {v u : Value} (h : EvP P op ty L v) (e : v = u) : EvP P op ty L u := e ▸ h
theorem EvR.isV {op : Op} {v u : Value} (h : EvR P op ty L S v) (e : v = u) : EvR P op ty L S u := e ▸ h
/-- A cell known by itself. -/
def AtC (S : World → Prop) (b off : Nat) (v : Value) : Prop := ∀ w, S w → ∃ (l : List Value) (T : TypeId) (fz : Nat × Nat), w.heap[b]? = some (.cells l.toArray T fz) ∧ l[off]? = some v
theorem EvR.loadS {t x b off v} (hx : ev L x = some (.pointer (some ⟨b, off, none⟩))) (ha : ∀ w, (isAgg t).run P w = .ok false w) (h : AtC S b off v) : EvR P (.load t x) ty L S v := fun ρ hk w hs dst pos aft g => by
  obtain ⟨l, T, fz, hb, hv⟩ := h w hs
  exact EvR.load (S := fun w' => w' = w) hx ha (fun w' e => by rw [e]; exact hb) hv ρ hk w rfl dst pos aft g
end

section
variable {c : Cx} {ops : Array Oper} {Q : Exit → Act → World → Prop} {d : Nat} {g : Operand} {f : FuncId} {cap : List Value} {xs : List Operand} {vs : List Value} {ats : Array TypeId} {ty : TypeId} {pos : String}
  {aft : Array Edge} {rest : List Oper} {L : Fl} {H R : List Chunk}
theorem TL.callD {post : Value → Chunk → Chunk → Chunk → Prop} (hg : ev L g = some (.func (.func f) #[] cap.toArray)) (hx : evs L xs = some vs) (hc : ∀ args w, (callFunc f args).run c.P w = .ok (.enter f args) w)
    (hs : ∀ w, St c.w0 w H → Calls c.P f (vs ++ cap).toArray w (Post3 c.w0 R post)) (k : ∀ v C D E, post v C D E → TL c ops Q rest ((d, v) :: L) (C :: D :: E :: R)) (hd : Nat.blt d c.N = true := by rfl) :
    TL c ops Q (⟨some d, .call { callee := .value g, args := xs.toArray, argTypes := ats }, ty, pos, aft, none⟩ :: rest) L H :=
  TL.call hg hx hc hs (by rintro v Hq ⟨C, D, E, rfl, hp⟩; exact k v C D E hp) hd
theorem TL.callC0 {post : Value → Chunk → Chunk → Prop} (hg : ev L g = some (.func (.func f) #[] cap.toArray)) (hx : evs L xs = some vs) (hc : ∀ args w, (callFunc f args).run c.P w = .ok (.enter f args) w)
    (hs : ∀ w, St c.w0 w H → Calls c.P f (vs ++ cap).toArray w (Post2 c.w0 R post)) (k : ∀ v C D, post v C D → TL c ops Q rest L (C :: D :: R)) :
    TL c ops Q (⟨none, .call { callee := .value g, args := xs.toArray, argTypes := ats }, ty, pos, aft, none⟩ :: rest) L H :=
  TL.call0 hg hx hc hs (by rintro v Hq ⟨C, D, rfl, hp⟩; exact k v C D hp)
theorem TL.callD0 {post : Value → Chunk → Chunk → Chunk → Prop} (hg : ev L g = some (.func (.func f) #[] cap.toArray)) (hx : evs L xs = some vs) (hc : ∀ args w, (callFunc f args).run c.P w = .ok (.enter f args) w)
    (hs : ∀ w, St c.w0 w H → Calls c.P f (vs ++ cap).toArray w (Post3 c.w0 R post)) (k : ∀ v C D E, post v C D E → TL c ops Q rest L (C :: D :: E :: R)) :
    TL c ops Q (⟨none, .call { callee := .value g, args := xs.toArray, argTypes := ats }, ty, pos, aft, none⟩ :: rest) L H :=
  TL.call0 hg hx hc hs (by rintro v Hq ⟨C, D, E, rfl, hp⟩; exact k v C D E hp)
end
section
variable {P : Program} {f : FuncId} {args : Array Value} {w0 w : World} {R : List Chunk}
theorem calls4 {x1 x2 x3 x4 : Nat × Obj} {post : Value → Prop} {Q : Value → Chunk → Prop} (h : Calls P f args w (Post0 w0 ([x1] :: [x2] :: [x3] :: [x4] :: R) post)) (hQ : ∀ u, post u → Q u [x1, x2, x3, x4]) : Calls P f args w (Post1 w0 R Q) :=
  h.mono fun e w' => by
    rintro ⟨v, Hq, rfl, ⟨rfl, hp⟩, hs⟩
    exact ⟨v, [_], rfl, ⟨_, rfl, hQ v hp⟩, hs.le ⟨[], by simp⟩⟩
theorem calls1of0 {C : Chunk} {post : Value → Prop} {Q : Value → Chunk → Prop} (h : Calls P f args w (Post0 w0 (C :: R) post)) (hQ : ∀ u, post u → Q u C) : Calls P f args w (Post1 w0 R Q) :=
  h.mono fun e w' => by
    rintro ⟨v, Hq, rfl, ⟨rfl, hp⟩, hs⟩
    exact ⟨v, [_], rfl, ⟨_, rfl, hQ v hp⟩, hs⟩
theorem calls2of0 {C D : Chunk} {post : Value → Prop} {Q : Value → Chunk → Chunk → Prop} (h : Calls P f args w (Post0 w0 (C :: D :: R) post)) (hQ : ∀ u, post u → Q u C D) : Calls P f args w (Post2 w0 R Q) :=
  h.mono fun e w' => by
    rintro ⟨v, Hq, rfl, ⟨rfl, hp⟩, hs⟩
    exact ⟨v, [_, _], rfl, ⟨_, _, rfl, hQ v hp⟩, hs⟩
theorem callsL1 {R' : List Chunk} {Q : Value → Chunk → Prop} (h : Calls P f args w (Post1 w0 R Q)) (hl : Le R' R) : Calls P f args w (Post1 w0 R' Q) :=
  h.mono fun e w' => by
    rintro ⟨v, Hq, rfl, ⟨C, rfl, hp⟩, hs⟩
    exact ⟨v, [C], rfl, ⟨C, rfl, hp⟩, hs.le (Le.hit hl)⟩
theorem callsM2 {Q Q' : Value → Chunk → Chunk → Prop} (h : Calls P f args w (Post2 w0 R Q)) (hQ : ∀ u C D, Q u C D → Q' u C D) : Calls P f args w (Post2 w0 R Q') :=
  h.mono fun e w' => by
    rintro ⟨v, Hq, rfl, ⟨C, D, rfl, hp⟩, hs⟩
    exact ⟨v, _, rfl, ⟨C, D, rfl, hQ _ _ _ hp⟩, hs⟩
theorem callsM1 {Q Q' : Value → Chunk → Prop} (h : Calls P f args w (Post1 w0 R Q)) (hQ : ∀ u C, Q u C → Q' u C) : Calls P f args w (Post1 w0 R Q') :=
  h.mono fun e w' => by
    rintro ⟨v, Hq, rfl, ⟨C, rfl, hp⟩, hs⟩
    exact ⟨v, _, rfl, ⟨C, rfl, hQ _ _ hp⟩, hs⟩
end

theorem Le.comm2 {x : Chunk} {A B : List Chunk} : Le (x :: (B ++ A)) (x :: (A ++ B)) := Le.hit (Le.of_perm List.perm_append_comm)
theorem Le.open2 {a b : Nat × Obj} {R} : Le ([a] :: [b] :: R) ([a, b] :: R) := ⟨[], by simp⟩
theorem Le.close2 {a b : Nat × Obj} {R} : Le ([a, b] :: R) ([a] :: [b] :: R) := ⟨[], by simp⟩
theorem Le.open4 {a b c d : Nat × Obj} {R} : Le ([a] :: [b] :: [c] :: [d] :: R) ([a, b, c, d] :: R) := ⟨[], by simp⟩
theorem Le.close4 {a b c d : Nat × Obj} {R} : Le ([a, b, c, d] :: R) ([a] :: [b] :: [c] :: [d] :: R) := ⟨[], by simp⟩
theorem Le.openC {a : Nat × Obj} {C : Chunk} {R} : Le ([a] :: C :: R) ((a :: C) :: R) := ⟨[], by simp⟩
theorem Le.closeC {a : Nat × Obj} {C : Chunk} {R} : Le ((a :: C) :: R) ([a] :: C :: R) := ⟨[], by simp⟩
theorem Le.drop1 {C : Chunk} {R} : Le R (C :: R) := .skip (.refl _)

/-! ### literals of one element -/
theorem ElT.of {P : Program} {e : TypeId} {n bytes : Nat} {i : TypeInfo} {z : Value} (h : ∀ w, (typeInfo e).run P w = .ok i w) (hs : i.size = n) (hb : i.bytes = bytes) (hz : i.zero = some z) (hzc : z.cells.size = n) : ElT P e n bytes := by
  refine ⟨i, z, ?_, hs, hb, hz, hzc⟩
  have := h default
  cases hi : P.info? e with
  | none => simp [typeInfo, hi] at this
  | some j => simp [typeInfo, hi] at this; rw [this]
theorem TL.lit1 {α : Type} {enc : α → List Value} {n : Nat} {c : Cx} {ops Q d pos aft rest} {L : Fl} {H : List Chunk} {ty t e : TypeId} {bytes : Nat} {o : Operand} {v : Value} (x : α) (hx : ev L o = some v) (het : ElT c.P e n bytes) (ht : c.P.underlying t = some (.slice e)) (hn : 0 < n) (hm : n ≤ 16777216)
    (hE : Enc n enc) (hc : v.cells = (enc x).toArray) (k : ∀ u D, Sl e n enc u [x] D → TL c ops Q rest ((d, u) :: L) (D :: H)) (hd : Nat.blt d c.N = true := by rfl) :
    TL c ops Q (⟨some d, .buildSlice t 1 #[(0, o)], ty, pos, aft, none⟩ :: rest) L H := by
  have hev : evs L [o] = some [v] := by simp [evs, hx]
  have hw := EvW.buildSlice (P := c.P) (ty := ty) (w0 := c.w0) (H := H) (enc := enc) (m := 1) [x] hev het ht hn rfl rfl (fun u hu => by rw [List.mem_singleton.1 hu, hc]; simpa using (hE x).1) (by simp [hc, rowOf]) (by omega)
  exact TL.w hw (by rintro _ _ ⟨b, rfl, rfl⟩; exact k _ _ (Sl.lit [x])) hd

theorem Sl.one {α : Type} {T : TypeId} {n : Nat} {enc : α → List Value} {v : Value} {xs : List α} {C : Chunk} (h : Sl T n enc v xs C) : v.oneCell' = true := by
  rcases h with ⟨rfl, _⟩ | ⟨b, off, cap, pre, spare, rfl, _⟩ <;> rfl
theorem EvU.store1 {P : Program} {L : Fl} {ty : TypeId} {w0 : World} {H H' : List Chunk} {t x y b off T v} {l l' : List Value} (hx : ev L x = some (.pointer (some ⟨b, off, none⟩))) (hy : ev L y = some v) (hz : ∀ w, (sizeOf t).run P w = .ok 1 w) (h1 : v.oneCell' = true)
    (hB : Has H b (.cells l.toArray T (0, 0))) (hs : SetL l off v l') (hu : Upd H b (.cells l.toArray T (0, 0)) (.cells l'.toArray T (0, 0)) H') : EvU P (.store t x y) ty L w0 H H' :=
  EvU.store hx hy hz (vs := [v]) (by rw [cells_one h1]) rfl (by simp [h1]) rfl hB (.cons hs .nil) hu
theorem EvW.lit1 {α : Type} {enc : α → List Value} {n : Nat} {P : Program} {w0 : World} {L : Fl} {H : List Chunk} {ty t e : TypeId} {bytes : Nat} {o : Operand} {v : Value} (x : α) (hx : ev L o = some v) (het : ElT P e n bytes) (ht : P.underlying t = some (.slice e)) (hn : 0 < n) (hm : n ≤ 16777216)
    (hE : Enc n enc) (hc : v.cells = (enc x).toArray) : EvW P (.buildSlice t 1 #[(0, o)]) ty L w0 H (fun u H' => ∃ D, Sl e n enc u [x] D ∧ H' = D :: H) := fun ρ hk w hst dst pos aft g => by
  have hev : evs L [o] = some [v] := by simp [evs, hx]
  have hw := EvW.buildSlice (P := P) (ty := ty) (w0 := w0) (H := H) (enc := enc) (m := 1) [x] hev het ht hn rfl rfl (fun u hu => by rw [List.mem_singleton.1 hu, hc]; simpa using (hE x).1) (by simp [hc, rowOf]) (by omega)
  obtain ⟨u, w', H', hr, ⟨b, rfl, rfl⟩, hs⟩ := hw ρ hk w hst dst pos aft g
  exact ⟨_, w', _, hr, ⟨_, Sl.lit [x], rfl⟩, hs⟩

/-! ### parts of a slice, as what is appended -/
section
variable {P : Program} {w0 : World} {H : List Chunk} {α : Type} {enc : α → List Value} {n : Nat} {T : TypeId}
theorem rowOf_take (hE : Enc n enc) {xs : List α} {k : Nat} (hk : k ≤ xs.length) {j : Nat} {u : Value} (h : (rowOf enc (xs.take k))[j]? = some u) : (rowOf enc xs)[j]? = some u := by
  have e : rowOf enc xs = rowOf enc (xs.take k) ++ rowOf enc (xs.drop k) := by rw [← rowOf_app, List.take_append_drop]
  rw [e, List.getElem?_append_left (List.getElem?_eq_some_iff.1 h).1, h]
theorem rowOf_drop (hE : Enc n enc) {xs : List α} {k : Nat} (hk : k ≤ xs.length) {j : Nat} {u : Value} (h : (rowOf enc (xs.drop k))[j]? = some u) : (rowOf enc xs)[k * n + j]? = some u := by
  have e : rowOf enc xs = rowOf enc (xs.take k) ++ rowOf enc (xs.drop k) := by rw [← rowOf_app, List.take_append_drop]
  have hl : (rowOf enc (xs.take k)).length = k * n := by rw [rowOf_len hE, List.length_take, Nat.min_eq_left hk]
  rw [e, List.getElem?_append_right (by omega), hl, Nat.add_sub_cancel_left, h]
theorem SrcR.take {tx e' : TypeId} (hk : P.underlying tx = some (.slice e')) (hE : Enc n enc) {a : Option Addr} {cap k : Nat} {xs : List α} {D : Chunk} (hs : Sl T n enc (.slice a xs.length cap) xs D) (hk2 : k ≤ xs.length) (hD : D ∈ H) :
    SrcR P w0 H tx (.slice a k cap) n enc (xs.take k) := by
  intro w hst
  rcases hs with ⟨e, rfl, rfl⟩ | ⟨b, off, cap', pre, spare, e, rfl, rfl, h1, h2⟩
  · cases e
    have : k = 0 := by simpa using hk2
    subst this
    exact Src.ofNil w hk 0
  · cases e
    have hb := (hst.at_ (b, .cells (pre ++ (rowOf enc xs ++ spare)).toArray T (0, 0)) (List.mem_flatten.2 ⟨_, hD, by simp⟩)).2
    have hlen : (xs.take k).length = k := by rw [List.length_take, Nat.min_eq_left hk2]
    have := src_block (P := P) (n := n) (w := w) (tx := tx) hk hE (ys := xs.take k) (cp := cap) hb (off := pre.length) fun j u h => by
      have h' := rowOf_take hE hk2 h
      have hj := (List.getElem?_eq_some_iff.1 h').1
      rw [List.getElem?_append_right (by omega), Nat.add_sub_cancel_left, List.getElem?_append_left hj]; exact h'
    rw [hlen] at this
    rw [hlen]; exact this
theorem SrcR.drop {tx e' : TypeId} (hk : P.underlying tx = some (.slice e')) (hE : Enc n enc) {a : Option Addr} {cap k : Nat} {xs : List α} {D : Chunk} (hs : Sl T n enc (.slice a xs.length cap) xs D) (hk2 : k ≤ xs.length) (hD : D ∈ H) :
    SrcR P w0 H tx (.slice (if cap = k then a else a.map (·.add (k * n))) (xs.length - k) (cap - k)) n enc (xs.drop k) := by
  intro w hst
  have hlen : (xs.drop k).length = xs.length - k := by rw [List.length_drop]
  rcases hs with ⟨e, rfl, rfl⟩ | ⟨b, off, cap', pre, spare, e, rfl, rfl, h1, h2⟩
  · cases e
    have : k = 0 := by simpa using hk2
    subst this
    exact Src.ofNil w hk 0
  · cases e
    have hb := (hst.at_ (b, .cells (pre ++ (rowOf enc xs ++ spare)).toArray T (0, 0)) (List.mem_flatten.2 ⟨_, hD, by simp⟩)).2
    have key : ∀ o, (o = pre.length + k * n ∨ xs.length = k) → Src P n tx (.slice (some ⟨b, o, none⟩) (xs.drop k).length (cap - k)) (xs.drop k).length (rowOf enc (xs.drop k)) w := fun o ho =>
      src_block (P := P) (n := n) (w := w) (tx := tx) hk hE (ys := xs.drop k) (cp := cap - k) hb (off := o) fun j u h => by
        rcases ho with rfl | ho
        · have h' := rowOf_drop hE hk2 h
          have hj := (List.getElem?_eq_some_iff.1 h').1
          rw [Nat.add_assoc, List.getElem?_append_right (by omega), Nat.add_sub_cancel_left, List.getElem?_append_left hj]; exact h'
        · rw [List.drop_eq_nil_of_le (by omega)] at h
          simp [rowOf] at h
    rw [hlen] at key ⊢
    by_cases hc : cap = k
    · rw [if_pos hc]
      exact key _ (.inr (by omega))
    · rw [if_neg hc]
      simp only [Option.map_some, addr_add]
      exact key _ (.inl rfl)
end

/-- x[1:] -/
theorem Sl.tail {α : Type} {enc : α → List Value} {n : Nat} {T : TypeId} (hE : Enc n enc) {a : Option Addr} {len cap : Nat} {x : α} {xs : List α} {C : Chunk} (hv : Sl T n enc (.slice a len cap) (x :: xs) C) :
    len = xs.length + 1 ∧ Sl T n enc (.slice (if cap = 1 then a else a.map (·.add (1 * n))) (len - 1) (cap - 1)) xs C := by
  rcases hv with ⟨_, e, _⟩ | ⟨b, off, cap', pre, spare, e, rfl, rfl, h1, h2⟩
  · cases e
  · cases e
    refine ⟨by simp, .inr ?_⟩
    simp only [List.length_cons] at h1 h2 ⊢
    by_cases hc : cap = 1
    · subst hc
      have hx : xs = [] := List.length_eq_zero_iff.1 (by omega)
      subst hx
      exact ⟨b, pre.length, 0, pre, enc x ++ spare, by simp, by simp [rowOf], rfl, by simp, by simp⟩
    · rw [if_neg hc]
      refine ⟨b, pre.length + 1 * n, cap - 1, pre ++ enc x, spare, by simp [addr_add], by simp [rowOf_cons, List.append_assoc], by simp [(hE x).1], by omega, ?_⟩
      rw [show cap - 1 - xs.length = cap - (xs.length + 1) by omega]; exact h2

/-! ### elements -/
section
variable {P : Program} {L : Fl} {ty : TypeId} {w0 : World} {H R : List Chunk} {S : World → Prop} {α : Type} {enc : α → List Value} {n : Nat} {T : TypeId}
/-- Where the element j of a slice lies, and what lies there. -/
def ElAt (S : World → Prop) (v : Value) (k : Nat) (enc : α → List Value) (T : TypeId) (j : Nat) (x : α) : Prop :=
  ∃ b off len cap l T' fz, v = .slice (some ⟨b, off, none⟩) len cap ∧ j < len ∧ AtB S b (.cells l.toArray T' fz) ∧ cellsAt l (off + j * k) (enc x)
theorem cellsAt_of {l : List Value} : ∀ {vs : List Value} {o : Nat}, (∀ i, i < vs.length → l[o + i]? = vs[i]?) → cellsAt l o vs
  | [], _, _ => trivial
  | v :: vs, o, h => ⟨by simpa using h 0 (by simp), cellsAt_of fun i hi => by
      have := h (i + 1) (by simpa using hi)
      rw [show o + 1 + i = o + (i + 1) by omega, this]; simp⟩
theorem Sl.elAt {v : Value} {xs : List α} {C : Chunk} (hv : Sl T n enc v xs C) (hE : Enc n enc) {j : Nat} {x : α} (hx : xs[j]? = some x) (hS : ∀ b o, C = [(b, o)] → AtB S b o) : ElAt S v n enc T j x := by
  have hj := (List.getElem?_eq_some_iff.1 hx).1
  rcases hv with ⟨rfl, rfl, rfl⟩ | ⟨b, off, cap, pre, spare, rfl, rfl, rfl, h1, h2⟩
  · simp at hj
  · refine ⟨b, pre.length, _, cap, _, _, _, rfl, hj, hS _ _ rfl, cellsAt_of fun i hi => ?_⟩
    have hi' : i < n := by rw [(hE x).1] at hi; exact hi
    rw [Nat.add_assoc, List.getElem?_append_right (by omega), Nat.add_sub_cancel_left]
    have hlen := rowOf_len hE xs
    have hlt : j * n + i < (rowOf enc xs).length := by
      rw [hlen]
      have : (j + 1) * n ≤ xs.length * n := Nat.mul_le_mul_right _ hj
      rw [Nat.succ_mul] at this; omega
    rw [List.getElem?_append_left hlt, rowOf_get hE hx i hi']
theorem AtB.chunk {C : Chunk} {b o} (hC : C ∈ H) (e : C = [(b, o)]) : AtB (fun w => St w0 w H) b o := fun w hs => (hs.at_ (b, o) (List.mem_flatten.2 ⟨C, hC, by rw [e]; simp⟩)).2
theorem AtB.chunk' {C : Chunk} {b o} (hC : C ∈ H) (e : C = [(b, o)]) : AtB (SH w0 H) b o := fun w hs => hs.2 (b, o) (List.mem_flatten.2 ⟨C, hC, by rw [e]; simp⟩)
theorem Sl.el {v : Value} {xs : List α} {C : Chunk} (hv : Sl T n enc v xs C) (hE : Enc n enc) {j : Nat} {x : α} (hx : xs[j]? = some x) (hC : C ∈ H) : ElAt (fun w => St w0 w H) v n enc T j x :=
  hv.elAt hE hx fun _ _ e => AtB.chunk hC e
/-- A slice whose elements are known, wherever they lie. -/
def Els (S : World → Prop) (v : Value) (k : Nat) (enc : α → List Value) (T : TypeId) (xs : List α) : Prop :=
  (∃ a cap, v = .slice a xs.length cap) ∧ ∀ j x, xs[j]? = some x → ElAt S v k enc T j x
theorem Sl.els {v : Value} {xs : List α} {C : Chunk} (hv : Sl T n enc v xs C) (hE : Enc n enc) (hC : C ∈ H) : Els (fun w => St w0 w H) v n enc T xs := by
  obtain ⟨a, cap, e, _, _⟩ := hv.len
  exact ⟨⟨a, cap, e⟩, fun j x hx => hv.el hE hx hC⟩
theorem Els.nil : Els S (.slice none 0 0) n enc T ([] : List α) := ⟨⟨none, 0, rfl⟩, fun j x hx => by simp at hx⟩
theorem Els.mono {S' : World → Prop} {v : Value} {k : Nat} {xs : List α} (h : Els S v k enc T xs) (hS : ∀ b o, AtB S b o → AtB S' b o) : Els S' v k enc T xs :=
  ⟨h.1, fun j x hx => by
    obtain ⟨b, off, len, cap, l, T', fz, e, hj, hb, hc⟩ := h.2 j x hx
    exact ⟨b, off, len, cap, l, T', fz, e, hj, hS _ _ hb, hc⟩⟩
/-- A slice that came in. -/
theorem Els.came {w0 : World} {H : List Chunk} {v : Value} {k : Nat} {xs : List α} (h : Els (fun w => w = w0) v k enc T xs) : Els (fun w => St w0 w H) v k enc T xs :=
  h.mono fun b o hb w hs => hs.old (hb w0 rfl)
theorem SetLs.mid {A vs ws B : List Value} (h : vs.length = ws.length) : SetLs (A ++ (ws ++ B)) A.length vs (A ++ (vs ++ B)) := by
  have := SetLs.front (vs := vs) (S := ws ++ B) (B := A) (by simp; omega)
  rwa [List.drop_append_of_le_length (by omega), List.drop_eq_nil_of_le (by omega), List.nil_append] at this
theorem rowOf_set (hE : Enc n enc) : ∀ {xs : List α} {j : Nat} (y : α), j < xs.length → ∃ A ws B, rowOf enc xs = A ++ (ws ++ B) ∧ A.length = j * n ∧ ws.length = n ∧ rowOf enc (xs.set j y) = A ++ (enc y ++ B)
  | [], j, y, h => by simp at h
  | x :: xs, 0, y, h => ⟨[], enc x, rowOf enc xs, by simp [rowOf_cons], by simp, (hE x).1, by simp [rowOf_cons]⟩
  | x :: xs, j + 1, y, h => by
    obtain ⟨A, ws, B, h1, h2, h3, h4⟩ := rowOf_set hE (xs := xs) (j := j) y (by simpa using h)
    exact ⟨enc x ++ A, ws, B, by simp [rowOf_cons, h1], by simp [h2, (hE x).1, Nat.succ_mul]; omega, h3, by simp [rowOf_cons, h4]⟩
/-- An element's place, to be written. -/
theorem TL.elemW {c : Cx} {ops Q d pos aft rest} {x i : Operand} {t e : TypeId} {v : Value} {xs : List α} {C : Chunk} {j : Nat} {q : IntKind} (hv : Sl T n enc v xs C) (hE : Enc n enc) (hj : j < xs.length) (hu : ∀ w, (underlying t).run c.P w = .ok (.slice e) w)
    (hz : ∀ w, (sizeOf e).run c.P w = .ok n w) (hx : ev L x = some v) (hi : ev L i = some (.int q j))
    (kk : ∀ b off l, C = [(b, .cells l.toArray T (0, 0))] → (∀ y : α, ∃ l', SetLs l off (enc y) l' ∧ Sl T n enc v (xs.set j y) [(b, .cells l'.toArray T (0, 0))]) → TL c ops Q rest ((d, .pointer (some ⟨b, off, none⟩)) :: L) H) (hd : Nat.blt d c.N = true := by rfl) :
    TL c ops Q (⟨some d, .indexAddr t x i, ty, pos, aft, none⟩ :: rest) L H := by
  rcases hv with ⟨rfl, rfl, rfl⟩ | ⟨b, off, cap, pre, spare, rfl, rfl, rfl, h1, h2⟩
  · simp at hj
  · refine TL.p (EvP.ix (j := (j : Int)) hu hz hx hi ⟨by omega, by omega⟩) (kk _ _ _ rfl fun y => ?_) hd
    obtain ⟨A, ws, B, e1, e2, e3, e4⟩ := rowOf_set hE (xs := xs) (j := j) y hj
    refine ⟨pre ++ (rowOf enc (xs.set j y) ++ spare), ?_, .inr ⟨b, pre.length, cap, pre, spare, by rw [List.length_set], rfl, rfl, by rw [List.length_set]; exact h1, by rw [List.length_set]; exact h2⟩⟩
    rw [e1, e4]
    have := SetLs.mid (A := pre ++ A) (vs := enc y) (ws := ws) (B := B ++ spare) (by rw [(hE y).1, e3])
    rw [List.length_append, e2] at this
    simpa [List.append_assoc] using this
/-- The address of an element, and what is loaded there. -/
theorem TL.elem {c : Cx} {ops Q d pos aft rest} {x i : Operand} {t e : TypeId} {v : Value} {j : Nat} {y : α} {k : Nat} {q : IntKind} (hE : ElAt (fun w => St c.w0 w H) v k enc T j y) (hu : ∀ w, (underlying t).run c.P w = .ok (.slice e) w)
    (hz : ∀ w, (sizeOf e).run c.P w = .ok k w) (hx : ev L x = some v) (hi : ev L i = some (.int q j))
    (kk : ∀ b off l T' fz, AtB (fun w => St c.w0 w H) b (.cells l.toArray T' fz) → cellsAt l off (enc y) → TL c ops Q rest ((d, .pointer (some ⟨b, off, none⟩)) :: L) H) (hd : Nat.blt d c.N = true := by rfl) :
    TL c ops Q (⟨some d, .indexAddr t x i, ty, pos, aft, none⟩ :: rest) L H := by
  obtain ⟨b, off, len, cap, l, T', fz, rfl, hj, hb, hc⟩ := hE
  exact TL.p (EvP.ix (j := (j : Int)) hu hz hx hi ⟨by omega, by omega⟩) (kk _ _ _ _ _ hb hc) hd
end
end Go.Proofs.YtdbpandamnkpdaaDoor
