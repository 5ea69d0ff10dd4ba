/-
  How ends spread, in plain Lean: what each bond brings, and how many come.
-/
import Derived.Test.YtdbpandamnkpdaaDoorSf
set_option linter.unusedSimpArgs false
set_option linter.unusedVariables false
namespace Go.Proofs.YtdbpandamnkpdaaDoor
open Go Go.RowKit Go.Lib

theorem elDe : ElT Tryd.prog 48 2 32 := ElT.of Tryd.typeInfo48 rfl rfl rfl rfl
theorem elTe : ElT Tryd.prog 67 2 32 := ElT.of Tryd.typeInfo67 rfl rfl rfl rfl
/-- A variable that holds a slice of deaths or of messages; its elements; their terms. -/
def DB (b T Ti : Nat) (ds : List Dth) (X D E : Chunk) : Prop :=
  ∃ a cap dvs, X = [(b, .cells [.slice a dvs.length cap].toArray T (0, 0))] ∧ Sl Ti 2 Dv.enc (.slice a dvs.length cap) dvs D ∧ Rel (HoldsC E) dvs ds
theorem DB.nil {b T Ti : Nat} : DB b T Ti [] [(b, .cells [.slice none 0 0].toArray T (0, 0))] [] [] := ⟨none, 0, [], rfl, Sl.nil, Rel.nil⟩
theorem DB.snoc {b T Ti : Nat} {ds : List Dth} {dvs : List Dv} {D2 CM E : Chunk} {v : Value} {p : Int} {a : Option Addr} {n c : Nat} {xs : List Cl} (hR : Rel (HoldsC E) dvs ds) (hs : Sl Ti 2 Dv.enc v (dvs ++ [⟨p, a, n, c⟩]) D2)
    (hm : Sl 57 3 Cl.enc (.slice a n c) xs CM) : DB b T Ti (ds ++ [(p, xs)]) [(b, .cells [v].toArray T (0, 0))] D2 (CM ++ E) := by
  obtain ⟨a2, cap2, rfl, _, _⟩ := hs.len
  exact ⟨a2, cap2, _, rfl, hs, hR.more.snoc rfl ((hm.elsC encC_ok).more (fun x hx => List.mem_append.2 (.inl hx)))⟩

section
variable {traps : List Int} {p : Int} {r : List Cl} {s : Sp} {b : Bond}
theorem bs_gone (h : whoOf p b ∉ s.al) : bstep traps p r s b = s := by unfold bstep; rw [if_pos h]
theorem bs_down (h : whoOf p b ∈ s.al) (h2 : 0 < b.r) : bstep traps p r s b = ⟨s.al, s.ds, s.ts ++ [(whoOf p b, (downM b.r p r).1)]⟩ := by unfold bstep; rw [if_neg (by simp [h]), if_pos h2]
theorem bs_exit (h : whoOf p b ∈ s.al) (h2 : ¬ 0 < b.r) (h3 : whoOf p b ∈ traps) : bstep traps p r s b = ⟨s.al, s.ds, s.ts ++ [(whoOf p b, (exitM p r).1)]⟩ := by unfold bstep; rw [if_neg (by simp [h]), if_neg h2, if_pos h3]
theorem bs_normal (h : whoOf p b ∈ s.al) (h2 : ¬ 0 < b.r) (h3 : whoOf p b ∉ traps) (h4 : isA r normalS = true) : bstep traps p r s b = s := by unfold bstep; rw [if_neg (by simp [h]), if_neg h2, if_neg h3, if_pos h4]
theorem bs_dies (h : whoOf p b ∈ s.al) (h2 : ¬ 0 < b.r) (h3 : whoOf p b ∉ traps) (h4 : ¬ isA r normalS = true) : bstep traps p r s b = ⟨outL s.al (whoOf p b), s.ds ++ [(whoOf p b, r)], s.ts⟩ := by unfold bstep; rw [if_neg (by simp [h]), if_neg h2, if_neg h3, if_neg h4]
/-- What holds of all that comes. -/
structure SpOk (n : Nat) (s : Sp) (m : Nat) : Prop where
  nd : s.al.Nodup
  len : s.al.length + s.ds.length = n
  ts : s.ts.length + m ≤ 1024
  ok : ∀ q ∈ s.al, okPid q = true
  dok : ∀ d ∈ s.ds, okPid d.1 = true ∧ d.2.length ≤ 1024
theorem bstep_ok {n m : Nat} (h : SpOk n s (m + 1)) (hr : r.length ≤ 1024) : SpOk n (bstep traps p r s b) m := by
  unfold bstep
  have ht := h.ts
  split
  · exact ⟨h.nd, h.len, by omega, h.ok, h.dok⟩
  · rename_i hw
    have hw' : whoOf p b ∈ s.al := by simpa using hw
    split
    · exact ⟨h.nd, h.len, by simp only [List.length_append, List.length_singleton]; omega, h.ok, h.dok⟩
    · split
      · exact ⟨h.nd, h.len, by simp only [List.length_append, List.length_singleton]; omega, h.ok, h.dok⟩
      · split
        · exact ⟨h.nd, h.len, by omega, h.ok, h.dok⟩
        · refine ⟨h.nd.sublist List.filter_sublist, ?_, by simp only; omega, fun q hq => h.ok q (mem_outL.1 hq).1, fun d hd => ?_⟩
          · have := outL_len h.nd hw'
            have := h.len
            simp only [List.length_append, List.length_singleton]
            omega
          · rcases List.mem_append.1 hd with hd | hd
            · exact h.dok d hd
            · rw [List.mem_singleton.1 hd]; exact ⟨h.ok _ hw', hr⟩
theorem bfold_ok {n m : Nat} (hr : r.length ≤ 1024) : ∀ {l : List Bond} {s : Sp}, SpOk n s (l.length + m) → SpOk n (l.foldl (bstep traps p r) s) m
  | [], s, h => by simpa using h
  | b :: l, s, h => by
    rw [List.foldl_cons]
    refine bfold_ok hr (bstep_ok (b := b) (m := l.length + m) ?_ hr)
    rw [List.length_cons] at h
    rw [show l.length + m + 1 = l.length + 1 + m from by omega]
    exact h
/-- After the first i bonds. -/
def inI (traps : List Int) (p : Int) (r : List Cl) (bs : List Bond) (s : Sp) (i : Nat) : Sp := (bs.take i).foldl (bstep traps p r) s
theorem inI_step {bs : List Bond} {i : Nat} (hb : bs[i]? = some b) : inI traps p r bs s (i + 1) = bstep traps p r (inI traps p r bs s i) b := by
  unfold inI
  rw [List.take_add_one, hb]
  simp [List.foldl_append]
theorem inI_ok {n m : Nat} {bs : List Bond} {i : Nat} (h : SpOk n s (bs.length + m)) (hr : r.length ≤ 1024) (hi : i ≤ bs.length) : SpOk n (inI traps p r bs s i) (bs.length - i + m) := by
  unfold inI
  refine bfold_ok hr ?_
  rw [List.length_take, Nat.min_eq_left hi]
  rw [show i + (bs.length - i + m) = bs.length + m from by omega]
  exact h
end
theorem filter_split {f : Bond → Bool} : ∀ {L : List Bond}, (L.filter f).length + (L.filter fun b => !f b).length = L.length
  | [] => rfl
  | b :: L => by
    have := filter_split (f := f) (L := L)
    cases h : f b <;> simp [List.filter_cons, h] <;> omega
theorem endT_split {L : List Bond} {p : Int} : (endT L p).length + (endL L p).length ≤ L.length := by
  unfold endT endL
  have h1 := List.length_filter_le (told p) (ofL L p)
  have h2 : (ofL L p).length + (L.filter fun b => !ofP p b).length = L.length := filter_split (f := ofP p)
  omega
section
variable {traps : List Int} {s : Sp × List Bond} {k : Nat} {d : Dth}
theorem kstep_at (h : s.1.ds[k]? = some d) : kstep traps s k = (inI traps d.1 d.2 (endT s.2 d.1) s.1 (endT s.2 d.1).length, endL s.2 d.1) := by
  unfold kstep inI
  rw [h, List.take_length]
theorem kstep_ok {n : Nat} (h : SpOk n s.1 s.2.length) (hk : s.1.ds[k]? = some d) : SpOk n (kstep traps s k).1 (kstep traps s k).2.length := by
  rw [kstep_at hk]
  have hd := (h.dok d (List.mem_of_getElem? hk)).2
  have hs := endT_split (L := s.2) (p := d.1)
  have h2 : SpOk n s.1 ((endT s.2 d.1).length + (endL s.2 d.1).length) := ⟨h.nd, h.len, by have := h.ts; omega, h.ok, h.dok⟩
  have := inI_ok (traps := traps) (p := d.1) (i := (endT s.2 d.1).length) h2 hd (Nat.le_refl _)
  simpa using this
end
/-- Those who live, without the first i that ended. -/
def dieL (live : List Int) (ds : List Dth) : List Int := ds.foldl (fun a d => outL a d.1) (setL live)
theorem dieL_snoc {live : List Int} {ds : List Dth} {i : Nat} {d : Dth} (h : ds[i]? = some d) : dieL live (ds.take (i + 1)) = outL (dieL live (ds.take i)) d.1 := by
  unfold dieL
  rw [List.take_add_one, h]
  simp [List.foldl_append]
theorem mem_foldOut {q : Int} : ∀ {ds : List Dth} {al : List Int}, q ∈ ds.foldl (fun a d => outL a d.1) al ↔ q ∈ al ∧ q ∉ ds.map (·.1)
  | [], al => by simp
  | d :: ds, al => by
    rw [List.foldl_cons, mem_foldOut, mem_outL]
    simp only [List.map_cons, List.mem_cons, not_or, and_assoc]
theorem mem_dieL {q : Int} {live : List Int} {ds : List Dth} : q ∈ dieL live ds ↔ q ∈ live ∧ q ∉ ds.map (·.1) := by unfold dieL; rw [mem_foldOut, mem_setL]
theorem setL_nodup (l : List Int) : (setL l).Nodup := by
  have : ∀ (l al : List Int), al.Nodup → (l.foldl putL al).Nodup := by
    intro l
    induction l with
    | nil => exact fun al h => h
    | cons p l ih =>
      intro al h
      refine ih _ ?_
      unfold putL
      split
      · exact h
      · rename_i hp
        exact List.nodup_append.2 ⟨h, by simp, fun a ha b hb => by rw [List.mem_singleton.1 hb]; rintro rfl; exact hp ha⟩
  exact this l [] (by simp)
theorem foldOut_nodup : ∀ {ds : List Dth} {al : List Int}, al.Nodup → (ds.foldl (fun a d => outL a d.1) al).Nodup
  | [], al, h => h
  | d :: ds, al, h => foldOut_nodup (ds := ds) (al := outL al d.1) (h.sublist List.filter_sublist)
theorem foldOut_len : ∀ {ds : List Dth} {al : List Int}, al.Nodup → (ds.map (·.1)).Nodup → (∀ d ∈ ds, d.1 ∈ al) → (ds.foldl (fun a d => outL a d.1) al).length + ds.length = al.length
  | [], al, _, _, _ => by simp
  | d :: ds, al, h, hn, hm => by
    rw [List.map_cons, List.nodup_cons] at hn
    have h1 := outL_len h (hm d (by simp))
    have h2 := foldOut_len (ds := ds) (h.sublist List.filter_sublist : (outL al d.1).Nodup) hn.2 fun e he => mem_outL.2 ⟨hm e (by simp [he]), fun e2 => hn.1 (e2 ▸ List.mem_map.2 ⟨e, he, rfl⟩)⟩
    rw [List.foldl_cons, List.length_cons]
    omega
theorem sp0_ok {live traps : List Int} {ds : List Dth} (h : wrongM live traps ds = 0) {m : Nat} (hm : m ≤ 1024) : SpOk (setL live).length (sp0 live ds) m := by
  obtain ⟨h1, h2, h3, h4, h5, h6⟩ := wrong_zero h
  refine ⟨foldOut_nodup (setL_nodup live), foldOut_len (setL_nodup live) h5 fun d hd => mem_setL.2 (h6 d hd), by simpa [sp0] using hm, fun q hq => h1 q (mem_dieL.1 hq).1, fun d hd => ⟨h3 d hd, right_len (h4 d hd)⟩⟩
theorem setL_len {live : List Int} (h : ∀ p ∈ live, okPid p = true) : (setL live).length ≤ 1099511627776 :=
  nodup_bound 1099511627776 _ (setL_nodup live) fun x hx => by
    have := h x (mem_setL.1 hx)
    simp only [okPid, decide_eq_true_eq] at this
    omega
theorem spN_ok {traps : List Int} {n : Nat} {s : Sp × List Bond} (h : SpOk n s.1 s.2.length) : ∀ k, SpOk n (spN traps s k).1 (spN traps s k).2.length
  | 0 => h
  | k + 1 => by
    have ih := spN_ok (traps := traps) h k
    show SpOk n (kstep traps (spN traps s k) k).1 (kstep traps (spN traps s k) k).2.length
    cases hk : (spN traps s k).1.ds[k]? with
    | none => unfold kstep; rw [hk]; exact ih
    | some d => exact kstep_ok ih hk
end Go.Proofs.YtdbpandamnkpdaaDoor
