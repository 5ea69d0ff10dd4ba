/-
  The plain theory of peers and groups: who is linked with whom, over any number of links.
-/
import Derived.Test.YtdbpandamnkpdaaDoorLj
set_option linter.unusedSimpArgs false
set_option linter.unusedVariables false
set_option linter.unusedSectionVars false
namespace Go.Proofs.YtdbpandamnkpdaaDoor
open Go Go.RowKit

def isL (b : Bond) : Bool := decide (b.r = 0)
def other (p : Int) (b : Bond) : Int := if b.f = p then b.t else b.f
def peersOf (L : List Bond) (p : Int) : List Int := ((ofL L p).filter isL).map (other p)
def pls (L : List Bond) (p : Int) : List Int := srt (peersOf L p)
def Adj (L : List Bond) (p q : Int) : Prop := ∃ b ∈ L, b.r = 0 ∧ ((b.f = p ∧ b.t = q) ∨ (b.t = p ∧ b.f = q))

theorem Adj.symm {L : List Bond} {p q : Int} (h : Adj L p q) : Adj L q p := by
  obtain ⟨b, hb, hr, h⟩ := h
  exact ⟨b, hb, hr, h.elim (fun h => .inr ⟨h.2, h.1⟩) (fun h => .inl ⟨h.2, h.1⟩)⟩
theorem mem_peers {L : List Bond} (h : LOk L) {p q : Int} : q ∈ peersOf L p ↔ Adj L p q := by
  unfold peersOf ofL
  rw [List.mem_map]
  constructor
  · rintro ⟨b, hb, rfl⟩
    rw [List.mem_filter, List.mem_filter] at hb
    obtain ⟨⟨hm, hp⟩, hr⟩ := hb
    simp only [ofP, Bool.or_eq_true, decide_eq_true_eq] at hp
    have hr' : b.r = 0 := by simpa [isL] using hr
    refine ⟨b, hm, hr', ?_⟩
    unfold other
    by_cases hf : b.f = p
    · rw [if_pos hf]; exact .inl ⟨hf, rfl⟩
    · rw [if_neg hf]; exact .inr ⟨hp.resolve_left hf, rfl⟩
  · rintro ⟨b, hm, hr, hc⟩
    have hlt := (h.ok b hm).2.2.2 hr
    refine ⟨b, ?_, ?_⟩
    · rw [List.mem_filter, List.mem_filter]
      refine ⟨⟨hm, ?_⟩, by simp [isL, hr]⟩
      simp only [ofP, Bool.or_eq_true, decide_eq_true_eq]
      exact hc.imp (·.1) (·.1)
    · unfold other
      rcases hc with ⟨h1, h2⟩ | ⟨h1, h2⟩
      · rw [if_pos h1, h2]
      · rw [if_neg (by omega), h2]
theorem peers_nodup {L : List Bond} (h : LOk L) (p : Int) : (peersOf L p).Nodup := by
  unfold peersOf
  have hn : ((ofL L p).filter isL).Nodup := (h.nd.filter _).filter _
  refine List.pairwise_map.2 (hn.imp_of_mem fun {x y} hx hy hne => ?_)
  intro e
  apply hne
  unfold ofL at hx hy
  rw [List.mem_filter, List.mem_filter] at hx hy
  obtain ⟨⟨hxm, hxp⟩, hxr⟩ := hx
  obtain ⟨⟨hym, hyp⟩, hyr⟩ := hy
  simp only [ofP, Bool.or_eq_true, decide_eq_true_eq, isL] at hxp hyp hxr hyr
  have h1 := (h.ok x hxm).2.2.2 hxr
  have h2 := (h.ok y hym).2.2.2 hyr
  unfold other at e
  have : x.f = y.f ∧ x.t = y.t := by
    split at e <;> split at e <;> omega
  cases x; cases y
  simp_all

theorem srt_mem {l : List Int} {x : Int} : x ∈ srt l ↔ x ∈ l := (List.mergeSort_perm l _).mem_iff
theorem srt_len {l : List Int} : (srt l).length = l.length := List.length_mergeSort l
theorem srt_nodup {l : List Int} (h : l.Nodup) : (srt l).Nodup := (List.mergeSort_perm l _).nodup_iff.2 h
theorem srt_sorted (l : List Int) : (srt l).Pairwise fun x y => x ≤ y :=
  (List.pairwise_mergeSort (le := fun x y : Int => decide (x ≤ y)) (fun a b c h1 h2 => by simp only [decide_eq_true_eq] at h1 h2 ⊢; omega) (fun a b => by simp only [Bool.or_eq_true, decide_eq_true_eq]; omega) l).imp (by simp)
theorem srt_congr {l m : List Int} (h : l.Perm m) : srt l = srt m := by
  refine List.Perm.eq_of_pairwise (le := fun x y : Int => x ≤ y) (fun a b _ _ h1 h2 => by omega) (srt_sorted l) (srt_sorted m) ?_
  exact ((List.mergeSort_perm l _).trans h).trans (List.mergeSort_perm m _).symm
theorem srt_srt {l : List Int} : srt (srt l) = srt l := srt_congr (List.mergeSort_perm l _)
theorem srt_ext {l m : List Int} (hl : l.Nodup) (hm : m.Nodup) (h : ∀ x, x ∈ l ↔ x ∈ m) : srt l = srt m := srt_congr ((List.perm_ext_iff_of_nodup hl hm).2 h)

/-! ### breadth first -/
def stepB (acc : List Int) (q : Int) : List Int := if q ∈ acc then acc else acc ++ [q]
def expand (L : List Bond) (acc : List Int) (p : Int) : List Int := (pls L p).foldl stepB acc
def bit (L : List Bond) (p : Int) : Nat → List Int
  | 0 => [p]
  | k + 1 => match (bit L p k)[k]? with
    | some x => expand L (bit L p k) x
    | none => bit L p k

theorem stepB_mem {acc : List Int} {q x : Int} : x ∈ stepB acc q ↔ x ∈ acc ∨ x = q := by
  unfold stepB
  split
  · exact ⟨.inl, fun h => h.elim id fun e => e ▸ (by assumption)⟩
  · simp
theorem stepB_nodup {acc : List Int} {q : Int} (h : acc.Nodup) : (stepB acc q).Nodup := by
  unfold stepB
  split
  · exact h
  · rename_i hq; exact nodup_snoc h hq
theorem stepB_pre {acc : List Int} {q : Int} : acc <+: stepB acc q := by
  unfold stepB
  split
  · exact List.prefix_refl _
  · exact List.prefix_append _ _
theorem fold_mem {x : Int} : ∀ {qs acc : List Int}, x ∈ qs.foldl stepB acc ↔ x ∈ acc ∨ x ∈ qs
  | [], acc => by simp
  | q :: qs, acc => by
    rw [List.foldl_cons, fold_mem, stepB_mem, List.mem_cons]
    constructor
    · rintro ((h | h) | h)
      · exact .inl h
      · exact .inr (.inl h)
      · exact .inr (.inr h)
    · rintro (h | h | h)
      · exact .inl (.inl h)
      · exact .inl (.inr h)
      · exact .inr h
theorem fold_nodup : ∀ {qs acc : List Int}, acc.Nodup → (qs.foldl stepB acc).Nodup
  | [], acc, h => h
  | q :: qs, acc, h => by
    rw [List.foldl_cons]
    exact fold_nodup (stepB_nodup h)
theorem fold_pre : ∀ {qs acc : List Int}, acc <+: qs.foldl stepB acc
  | [], acc => List.prefix_refl _
  | q :: qs, acc => stepB_pre.trans fold_pre
theorem bit_nodup {L : List Bond} {p : Int} : ∀ k, (bit L p k).Nodup
  | 0 => by simp [bit]
  | k + 1 => by
    unfold bit
    split
    · exact fold_nodup (bit_nodup k)
    · exact bit_nodup k
theorem bit_pre {L : List Bond} {p : Int} (k : Nat) : bit L p k <+: bit L p (k + 1) := by
  show bit L p k <+: match (bit L p k)[k]? with
    | some x => expand L (bit L p k) x
    | none => bit L p k
  split
  · exact fold_pre
  · exact List.prefix_refl _
theorem bit_next {L : List Bond} {p : Int} {k : Nat} {x : Int} (h : (bit L p k)[k]? = some x) : bit L p (k + 1) = (pls L x).foldl stepB (bit L p k) := by
  show (match (bit L p k)[k]? with
    | some x => expand L (bit L p k) x
    | none => bit L p k) = _
  rw [h]; rfl
theorem bit_stop {L : List Bond} {p : Int} {k : Nat} (h : (bit L p k).length ≤ k) : ∀ j, bit L p (k + j) = bit L p k
  | 0 => rfl
  | j + 1 => by
    have ih := bit_stop h j
    show (match (bit L p (k + j))[k + j]? with
      | some x => expand L (bit L p (k + j)) x
      | none => bit L p (k + j)) = _
    rw [ih, List.getElem?_eq_none (by omega)]
theorem bit_root {L : List Bond} {p : Int} : ∀ k, p ∈ bit L p k
  | 0 => by simp [bit]
  | k + 1 => (bit_pre k).subset (bit_root k)

inductive Reach (L : List Bond) (p : Int) : Int → Prop
  | refl : Reach L p p
  | step {x q : Int} : Reach L p x → Adj L x q → Reach L p q
theorem Reach.trans {L : List Bond} {p q r : Int} (h : Reach L p q) (k : Reach L q r) : Reach L p r := by
  induction k with
  | refl => exact h
  | step _ ha ih => exact .step ih ha
theorem Reach.symm {L : List Bond} {p q : Int} (h : Reach L p q) : Reach L q p := by
  induction h with
  | refl => exact .refl
  | step _ ha ih => exact (Reach.step .refl ha.symm).trans ih
theorem Adj.ok {L : List Bond} (h : LOk L) {p q : Int} (ha : Adj L p q) : okPid p = true ∧ okPid q = true := by
  obtain ⟨b, hb, _, hc⟩ := ha
  have := h.ok b hb
  rcases hc with ⟨rfl, rfl⟩ | ⟨rfl, rfl⟩
  · exact ⟨this.1, this.2.1⟩
  · exact ⟨this.2.1, this.1⟩
theorem Reach.ok {L : List Bond} (h : LOk L) {p q : Int} (hp : okPid p = true) (hr : Reach L p q) : okPid q = true := by
  cases hr with
  | refl => exact hp
  | step _ ha => exact (ha.ok h).2

section
variable {L : List Bond} (h : LOk L) {p : Int}
include h
theorem bit_reach : ∀ k, ∀ x ∈ bit L p k, Reach L p x
  | 0, x, hx => by
    simp only [bit, List.mem_singleton] at hx
    rw [hx]; exact .refl
  | k + 1, x, hx => by
    unfold bit at hx
    split at hx
    · rename_i y hy
      rcases fold_mem.1 hx with hx | hx
      · exact bit_reach k x hx
      · unfold pls at hx
        rw [srt_mem, mem_peers h] at hx
        exact .step (bit_reach k y (List.mem_of_getElem? hy)) hx
    · exact bit_reach k x hx
theorem bit_closed : ∀ k, ∀ (j : Nat) (x : Int), j < k → (bit L p k)[j]? = some x → ∀ q, Adj L x q → q ∈ bit L p k
  | 0, j, x, hj, _, _, _ => by omega
  | k + 1, j, x, hj, hx, q, ha => by
    have hpre := bit_pre (L := L) (p := p) k
    rcases Nat.lt_or_ge j (bit L p k).length with hl | hl
    · have hx' : (bit L p k)[j]? = some x := by
        obtain ⟨t, ht⟩ := hpre
        rw [← ht, List.getElem?_append_left hl] at hx
        exact hx
      rcases Nat.lt_or_ge j k with hjk | hjk
      · exact hpre.subset (bit_closed k j x hjk hx' q ha)
      · have : j = k := by omega
        subst this
        rw [bit_next hx', fold_mem]
        unfold pls
        rw [srt_mem, mem_peers h]
        exact .inr ha
    · exfalso
      have hk : (bit L p k)[k]? = none := List.getElem?_eq_none (by omega)
      have : bit L p (k + 1) = bit L p k := by
        show (match (bit L p k)[k]? with
          | some x => expand L (bit L p k) x
          | none => bit L p k) = _
        rw [hk]
      rw [this, List.getElem?_eq_none hl] at hx
      cases hx
theorem bit_len (k : Nat) : (bit L p k).length ≤ 2 * L.length + 1 := by
  have : ∀ x ∈ bit L p k, x ∈ p :: (L.map (·.f) ++ L.map (·.t)) := fun x hx => by
    cases bit_reach h k x hx with
    | refl => simp
    | step _ ha =>
      obtain ⟨b, hb, _, hc⟩ := ha
      rw [List.mem_cons, List.mem_append, List.mem_map, List.mem_map]
      rcases hc with ⟨_, rfl⟩ | ⟨_, rfl⟩
      · exact .inr (.inr ⟨b, hb, rfl⟩)
      · exact .inr (.inl ⟨b, hb, rfl⟩)
  have := nodup_len (bit_nodup k) this
  simp only [List.length_cons, List.length_append, List.length_map] at this
  omega
end

def grp (L : List Bond) (p : Int) : List Int := if okPid p = true then srt (bit L p (2 * L.length + 1)) else []
section
variable {L : List Bond} (h : LOk L) {p : Int}
include h
theorem bit_end {k : Nat} (hk : (bit L p k).length ≤ k) (hk2 : k ≤ 2 * L.length + 1) : bit L p (2 * L.length + 1) = bit L p k := by
  have := bit_stop hk (2 * L.length + 1 - k)
  rwa [show k + (2 * L.length + 1 - k) = 2 * L.length + 1 by omega] at this
theorem grp_end {k : Nat} (hp : okPid p = true) (hk : (bit L p k).length ≤ k) (hk2 : k ≤ 2 * L.length + 1) : grp L p = srt (bit L p k) := by
  unfold grp
  rw [if_pos hp, bit_end h hk hk2]
theorem mem_bit {x : Int} : x ∈ bit L p (2 * L.length + 1) ↔ Reach L p x := by
  refine ⟨bit_reach h _ x, fun hr => ?_⟩
  induction hr with
  | refl => exact bit_root _
  | step _ ha ih =>
    obtain ⟨j, hj⟩ := List.getElem?_of_mem ih
    have hlt := (List.getElem?_eq_some_iff.1 hj).1
    have := bit_len h (p := p) (2 * L.length + 1)
    exact bit_closed h _ j _ (by omega) hj _ ha
theorem mem_grp {x : Int} : x ∈ grp L p ↔ okPid p = true ∧ Reach L p x := by
  unfold grp
  by_cases hp : okPid p = true
  · rw [if_pos hp, srt_mem, mem_bit h]; simp [hp]
  · rw [if_neg hp]; simp [hp]
theorem grp_nodup : (grp L p).Nodup := by
  unfold grp
  split
  · exact srt_nodup (bit_nodup _)
  · simp
theorem grp_len : (grp L p).length ≤ 2 * L.length + 1 := by
  unfold grp
  split
  · rw [srt_len]; exact bit_len h _
  · simp
theorem grp_same {x : Int} (hx : x ∈ grp L p) : grp L x = grp L p := by
  obtain ⟨hp, hr⟩ := (mem_grp h).1 hx
  have hxo := hr.ok h hp
  unfold grp
  rw [if_pos hp, if_pos hxo]
  exact srt_ext (bit_nodup _) (bit_nodup _) fun y => by
    rw [mem_bit h, mem_bit h]
    exact ⟨fun k => hr.trans k, fun k => hr.symm.trans k⟩
end
/-- Where two lists reach alike from p, p's group is the same. -/
theorem grp_congr {L M : List Bond} (h : LOk L) (h' : LOk M) {p : Int} (hr : ∀ x, Reach L p x ↔ Reach M p x) : grp L p = grp M p := by
  unfold grp
  split
  · exact srt_ext (bit_nodup _) (bit_nodup _) fun y => by rw [mem_bit h, mem_bit h']; exact hr y
  · rfl
end Go.Proofs.YtdbpandamnkpdaaDoor
