/-
  A statement whose order is open: whichever order is taken comes to one end.
-/
import Derived.Test.YtdbpandamnkpdaaDoorBg
import Derived.OrdersHeld
set_option linter.unusedSimpArgs false
set_option linter.unusedVariables false
namespace Go.Proofs.YtdbpandamnkpdaaDoor
open Go Go.RowKit

/-- Left off its end, and in no other way. -/
def Only (K : Act → World → Prop) : Exit → Act → World → Prop
  | .normal, a, w => K a w
  | _, _, _ => False

def TR (c : Cx) (ops : Array Oper) (K : Act → World → Prop) (S : World → Prop) (fuel : Nat) (listed : Array Bool) (L : Fl) (H : List Chunk) : Prop :=
  ∀ a w, Fr a c.D c.N L → St c.w0 w H → S w → wpAnyH c.P .any ops (Only K) S fuel listed a w

theorem TC.drawn {c : Cx} {id L H Q} {ops : Array Oper} {listed : Array Bool} (n : Nat) (S : World → Prop) (hrd : c.rd = none) (hm : c.P.follows .mixedOrders = true) (hn : ops.size = n) (hl : Array.replicate n false = listed) (hS : ∀ w, St c.w0 w H → S w)
    (h : TR c ops (fun a w => Q .normal a w) S n listed L H) : TC c (.region id ops true) L H Q := by
  subst hn
  subst hl
  intro a w hf hs
  rw [hrd]
  have hs' := hs.drawn (w.drawn + 1)
  have h1 : (Code.region id ops true).wp c.P (Only fun a w => Q .normal a w) a w := wp_region_held hm (h a _ hf hs' (hS _ hs'))
  have h2 : (Code.region id ops true).wp c.P Q a w := wp_mono h1 fun e a w q => by
    cases e with
    | normal => exact q
    | _ => exact q.elim
  exact (wpIn_wide (n := 0)).2 h2

section
variable {c : Cx} {ops : Array Oper} {K : Act → World → Prop} {S : World → Prop} {fuel : Nat} {listed : Array Bool} {L : Fl} {H H' : List Chunk}

theorem TR.done {Q : Exit → Act → World → Prop} (hr : Region.ready .any ops listed = []) (h : TX c .normal L H Q) : TR c ops (fun a w => Q .normal a w) S fuel listed L H :=
  fun a w hf hs _ => wpAnyH_done hr (show Only (fun a w => Q .normal a w) .normal a w from h a w hf hs) _

/-- An operation that looks, taken first. -/
theorem TR.take {d op ty pos aft v} {l' : Array Bool} (i : Nat) (hi : ops[i]? = some ⟨some d, op, ty, pos, aft, none⟩) (hsel : Region.noSelect ops = true) (hfree : Region.free .any ops listed i = true) (hr : (Region.ready .any ops listed).contains i = true)
    (hv : EvR c.P op ty L S v) (hl : listed.setIfInBounds i true = l') (k : TR c ops K S fuel l' ((d, v) :: L) H) (hd : Nat.blt d c.N = true := by rfl) : TR c ops K S (fuel + 1) listed L H := by
  intro a w hf hs hS
  have hy : YieldsIf c.P ops S ⟨some d, op, ty, pos, aft, none⟩ v a := .inl ⟨by simp [Region.wanted], fun w' hw' => hv a.eval hf.knows w' hw' _ _ _ _⟩
  refine wpAnyH_take hi hsel hfree hr (fun _ _ _ h => h.elim) hy hS ?_
  rw [hl]
  exact k _ w (hf.put hd v) hs hS
/-- .. one whose guard says yes, or no. -/
theorem TR.takeY {d op ty pos aft v j want t b} {l' : Array Bool} (i : Nat) (hi : ops[i]? = some ⟨some d, op, ty, pos, aft, some (j, want)⟩) (hg : (ops[j]?).bind (·.dst) = some t) (ht : flGet L t = some (.bool b)) (hb : (b == want) = true)
    (hsel : Region.noSelect ops = true) (hfree : Region.free .any ops listed i = true) (hr : (Region.ready .any ops listed).contains i = true)
    (hv : EvR c.P op ty L S v) (hl : listed.setIfInBounds i true = l') (k : TR c ops K S fuel l' ((d, v) :: L) H) (hd : Nat.blt d c.N = true := by rfl) : TR c ops K S (fuel + 1) listed L H := by
  intro a w hf hs hS
  have hy0 := yielded_of hf hg ht
  have hb' : b = want := by simpa using hb
  subst hb'
  have hy : YieldsIf c.P ops S ⟨some d, op, ty, pos, aft, some (j, b)⟩ v a := .inl ⟨by simp [Region.wanted, hy0], fun w' hw' => hv a.eval hf.knows w' hw' _ _ _ _⟩
  refine wpAnyH_take hi hsel hfree hr (fun _ _ _ h => h.elim) hy hS ?_
  rw [hl]
  exact k _ w (hf.put hd v) hs hS
theorem TR.takeN {d op ty pos aft j want t b} {l' : Array Bool} (i : Nat) (hi : ops[i]? = some ⟨some d, op, ty, pos, aft, some (j, want)⟩) (hg : (ops[j]?).bind (·.dst) = some t) (ht : flGet L t = some (.bool b)) (hb : (b == want) = false)
    (hsel : Region.noSelect ops = true) (hfree : Region.free .any ops listed i = true) (hr : (Region.ready .any ops listed).contains i = true)
    (hl : listed.setIfInBounds i true = l') (k : TR c ops K S fuel l' ((d, undef) :: L) H) (hd : Nat.blt d c.N = true := by rfl) : TR c ops K S (fuel + 1) listed L H := by
  intro a w hf hs hS
  have hy0 := yielded_of hf hg ht
  have hw : (some b == some want) = false := by simpa using hb
  have hy : YieldsIf c.P ops S ⟨some d, op, ty, pos, aft, some (j, want)⟩ undef a := .inr ⟨by simp only [Region.wanted, hy0, hw], rfl⟩
  refine wpAnyH_take hi hsel hfree hr (fun _ _ _ h => h.elim) hy hS ?_
  rw [hl]
  exact k _ w (hf.put hd undef) hs hS

/-- Whichever may come up now comes up. -/
theorem TR.all {rs : List Nat} (hr : Region.ready .any ops listed = rs) (hne : rs ≠ [])
    (h : ∀ i ∈ rs, ∀ a w, Fr a c.D c.N L → St c.w0 w H → S w → wpOp c.P ops (Only K) i (fun a' w' => S w' ∧ wpAnyH c.P .any ops (Only K) S fuel (listed.setIfInBounds i true) a' w') a w) : TR c ops K S (fuel + 1) listed L H :=
  fun a w hf hs hS => wpAnyH_all hr hne fun i hi => h i hi a w hf hs hS

/-- What an operation that comes up does. -/
def TRi (c : Cx) (ops : Array Oper) (K : Act → World → Prop) (S : World → Prop) (fuel : Nat) (listed : Array Bool) (i : Nat) (L : Fl) (H : List Chunk) : Prop :=
  ∀ a w, Fr a c.D c.N L → St c.w0 w H → S w → wpOp c.P ops (Only K) i (fun a' w' => S w' ∧ wpAnyH c.P .any ops (Only K) S fuel (listed.setIfInBounds i true) a' w') a w
theorem TR.one {i : Nat} (hr : Region.ready .any ops listed = [i]) (h : TRi c ops K S fuel listed i L H) : TR c ops K S (fuel + 1) listed L H :=
  TR.all hr (by simp) fun j hj => by
    simp only [List.mem_singleton] at hj
    subst hj
    exact h
theorem TR.two {i j : Nat} (hr : Region.ready .any ops listed = [i, j]) (h : TRi c ops K S fuel listed i L H) (h' : TRi c ops K S fuel listed j L H) : TR c ops K S (fuel + 1) listed L H :=
  TR.all hr (by simp) fun x hx => by
    simp only [List.mem_cons, List.not_mem_nil, or_false] at hx
    rcases hx with rfl | rfl
    · exact h
    · exact h'
theorem TRi.u {i op ty pos aft} {l' : Array Bool} (hi : ops[i]? = some ⟨none, op, ty, pos, aft, none⟩) (hv : EvU c.P op ty L c.w0 H H') (hS : ∀ w, St c.w0 w H' → S w) (hl : listed.setIfInBounds i true = l')
    (k : TR c ops K S fuel l' L H') : TRi c ops K S fuel listed i L H := by
  intro a w hf hs _
  obtain ⟨w', hr, hs'⟩ := hv a.eval hf.knows w hs none pos aft none
  unfold wpOp
  simp only [hi, Region.wanted, if_true, Oper.wp, hr, Oper.upon, Act.put]
  left
  rw [hl]
  exact ⟨hS _ hs', k a w' hf hs' (hS _ hs')⟩
theorem TRi.r {i d op ty pos aft v} {l' : Array Bool} (hi : ops[i]? = some ⟨some d, op, ty, pos, aft, none⟩) (hv : EvR c.P op ty L (fun w => St c.w0 w H) v) (hS : ∀ w, St c.w0 w H → S w) (hl : listed.setIfInBounds i true = l')
    (k : TR c ops K S fuel l' ((d, v) :: L) H) (hd : Nat.blt d c.N = true := by rfl) : TRi c ops K S fuel listed i L H := by
  intro a w hf hs _
  have hr := hv a.eval hf.knows w hs (some d) pos aft none
  unfold wpOp
  simp only [hi, Region.wanted, if_true, Oper.wp, hr, Oper.upon]
  left
  rw [hl]
  exact ⟨hS _ hs, k _ w (hf.put hd v) hs (hS _ hs)⟩
theorem TRi.w {i d op ty pos aft post} {l' : Array Bool} (hi : ops[i]? = some ⟨some d, op, ty, pos, aft, none⟩) (hv : EvW c.P op ty L c.w0 H post) (hl : listed.setIfInBounds i true = l')
    (k : ∀ v H', post v H' → (∀ w, St c.w0 w H' → S w) ∧ TR c ops K S fuel l' ((d, v) :: L) H') (hd : Nat.blt d c.N = true := by rfl) : TRi c ops K S fuel listed i L H := by
  intro a w hf hs _
  obtain ⟨v, w', H', hr, hp, hs'⟩ := hv a.eval hf.knows w hs (some d) pos aft none
  obtain ⟨hS, k⟩ := k v H' hp
  unfold wpOp
  simp only [hi, Region.wanted, if_true, Oper.wp, hr, Oper.upon]
  left
  rw [hl]
  exact ⟨hS _ hs', k _ w' (hf.put hd v) hs' (hS _ hs')⟩
theorem TRi.w0 {i op ty pos aft post} {l' : Array Bool} (hi : ops[i]? = some ⟨none, op, ty, pos, aft, none⟩) (hv : EvW c.P op ty L c.w0 H post) (hl : listed.setIfInBounds i true = l')
    (k : ∀ v H', post v H' → (∀ w, St c.w0 w H' → S w) ∧ TR c ops K S fuel l' L H') : TRi c ops K S fuel listed i L H := by
  intro a w hf hs _
  obtain ⟨v, w', H', hr, hp, hs'⟩ := hv a.eval hf.knows w hs none pos aft none
  obtain ⟨hS, k⟩ := k v H' hp
  unfold wpOp
  simp only [hi, Region.wanted, if_true, Oper.wp, hr, Oper.upon, Act.put]
  left
  rw [hl]
  exact ⟨hS _ hs', k _ w' hf hs' (hS _ hs')⟩
theorem TRi.call {i d g f} {cap : List Value} {xs vs ats ty pos aft post} {R : List Chunk} {l' : Array Bool} (hi : ops[i]? = some ⟨some d, .call { callee := .value g, args := xs.toArray, argTypes := ats }, ty, pos, aft, none⟩)
    (hg : ev L g = some (.func (.func f) #[] cap.toArray)) (hx : evs L xs = some vs) (hc : ∀ args w, (callFunc f args).run c.P w = .ok (.enter f args) w)
    (hs : ∀ w, St c.w0 w H → Calls c.P f (vs ++ cap).toArray w (Post c.w0 R post)) (hl : listed.setIfInBounds i true = l')
    (k : ∀ v Hq, post v Hq → (∀ w, St c.w0 w (Hq ++ R) → S w) ∧ TR c ops K S fuel l' ((d, v) :: L) (Hq ++ R)) (hd : Nat.blt d c.N = true := by rfl) : TRi c ops K S fuel listed i L H := by
  intro a w hf hst _
  unfold wpOp
  simp only [hi, Region.wanted, if_true, Oper.wp]
  left
  rw [run_call hf.knows hg hx hc, Oper.upon_enter]
  refine (hs w hst).mono ?_
  rintro e w' ⟨v, Hq, rfl, hp, hs'⟩
  obtain ⟨hS, k⟩ := k v Hq hp
  rw [hl]
  exact ⟨hS _ hs', k _ w' (hf.put hd v) hs' (hS _ hs')⟩
/-- Guards of what comes up. -/
theorem TRi.gY {i dst op ty pos aft j want t b} (hi : ops[i]? = some ⟨dst, op, ty, pos, aft, some (j, want)⟩) (hg : (ops[j]?).bind (·.dst) = some t) (ht : flGet L t = some (.bool b)) (hb : (b == want) = true)
    (h : ∀ a w, Fr a c.D c.N L → St c.w0 w H → S w → (⟨dst, op, ty, pos, aft, none⟩ : Oper).wp c.P a w (fun a' w' => S w' ∧ wpAnyH c.P .any ops (Only K) S fuel (listed.setIfInBounds i true) a' w') (Only K)) : TRi c ops K S fuel listed i L H := by
  intro a w hf hs hS
  have hy0 := yielded_of hf hg ht
  have hb' : b = want := by simpa using hb
  subst hb'
  have := h a w hf hs hS
  unfold wpOp
  simp only [hi, Region.wanted, hy0, beq_self_eq_true, if_true]
  left
  exact this
theorem TRi.callG {i d g f} {cap : List Value} {xs vs ats ty pos aft post j want t b} {R : List Chunk} {l' : Array Bool} (hi : ops[i]? = some ⟨some d, .call { callee := .value g, args := xs.toArray, argTypes := ats }, ty, pos, aft, some (j, want)⟩)
    (hgd : (ops[j]?).bind (·.dst) = some t) (ht : flGet L t = some (.bool b)) (hb : (b == want) = true)
    (hg : ev L g = some (.func (.func f) #[] cap.toArray)) (hx : evs L xs = some vs) (hc : ∀ args w, (callFunc f args).run c.P w = .ok (.enter f args) w)
    (hs : ∀ w, St c.w0 w H → Calls c.P f (vs ++ cap).toArray w (Post c.w0 R post)) (hl : listed.setIfInBounds i true = l')
    (k : ∀ v Hq, post v Hq → (∀ w, St c.w0 w (Hq ++ R) → S w) ∧ TR c ops K S fuel l' ((d, v) :: L) (Hq ++ R)) (hd : Nat.blt d c.N = true := by rfl) : TRi c ops K S fuel listed i L H := by
  refine TRi.gY hi hgd ht hb ?_
  intro a w hf hst _
  unfold Oper.wp
  rw [run_call hf.knows hg hx hc, Oper.upon_enter]
  refine (hs w hst).mono ?_
  rintro e w' ⟨v, Hq, rfl, hp, hs'⟩
  obtain ⟨hS, k⟩ := k v Hq hp
  rw [hl]
  exact ⟨hS _ hs', k _ w' (hf.put hd v) hs' (hS _ hs')⟩
theorem TRi.rG {i d op ty pos aft v j want t b} {l' : Array Bool} (hi : ops[i]? = some ⟨some d, op, ty, pos, aft, some (j, want)⟩) (hgd : (ops[j]?).bind (·.dst) = some t) (ht : flGet L t = some (.bool b)) (hb : (b == want) = true)
    (hv : EvR c.P op ty L (fun w => St c.w0 w H) v) (hS : ∀ w, St c.w0 w H → S w) (hl : listed.setIfInBounds i true = l')
    (k : TR c ops K S fuel l' ((d, v) :: L) H) (hd : Nat.blt d c.N = true := by rfl) : TRi c ops K S fuel listed i L H := by
  refine TRi.gY hi hgd ht hb ?_
  intro a w hf hs _
  have hr := hv a.eval hf.knows w hs (some d) pos aft none
  unfold Oper.wp
  simp only [hr, Oper.upon]
  rw [hl]
  exact ⟨hS _ hs, k _ w (hf.put hd v) hs (hS _ hs)⟩
theorem TR.le {H'' : List Chunk} (hl : Le H'' H) (h : TR c ops K S fuel listed L H'') : TR c ops K S fuel listed L H := fun a w hf hs hS => h a w hf (hs.le hl) hS
theorem TRi.le {i : Nat} {H'' : List Chunk} (hl : Le H'' H) (h : TRi c ops K S fuel listed i L H'') : TRi c ops K S fuel listed i L H := fun a w hf hs hS => h a w hf (hs.le hl) hS
theorem TR.bsplit (t : Nat) {b : Bool} (ht : flGet L t = some (.bool b)) (kt : b = true → TR c ops K S fuel listed ((t, .bool true) :: L) H) (kf : b = false → TR c ops K S fuel listed ((t, .bool false) :: L) H) : TR c ops K S fuel listed L H := by
  have hs : ∀ v, v = b → ∀ a, Fr a c.D c.N L → Fr a c.D c.N ((t, .bool v) :: L) := by
    rintro v rfl a hf
    refine ⟨hf.defers, hf.size, ?_⟩
    intro s u e
    by_cases hts : t = s
    · subst hts
      simp only [flGet, Nat.beq_refl, cond_true, Option.some.injEq] at e
      subst e
      exact hf.get _ _ ht
    · simp only [flGet, beq_no hts, cond_false] at e
      exact hf.get _ _ e
  intro a w hf hst hS
  cases b with
  | true => exact kt rfl a w (hs true rfl a hf) hst hS
  | false => exact kf rfl a w (hs false rfl a hf) hst hS
end
end Go.Proofs.YtdbpandamnkpdaaDoor
