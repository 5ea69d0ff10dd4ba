/-
  What each call comes to, over a list of bonds: the given graph's calls and the document's, in the same words.
-/
import Derived.Test.YtdbpandamnkpdaaDoorLh
set_option linter.unusedSimpArgs false
set_option linter.unusedVariables false
namespace Go.Proofs.YtdbpandamnkpdaaDoor
open Go Go.RowKit

/-- The given graph, over a list of bonds; no number in it is above k. -/
def IsG (k : Int) (L : List Bond) (g : Nat) (C : Chunk) : Prop := ∃ mb ml mr n eb cb el cl er cr S,
  C = [(g, .cells [.map (some mb), .int .i64 n, .map (some ml), .map (some mr)].toArray 91 (0, 0)), (mb, mapObj kI eb cb), (ml, mapObj kP el cl), (mr, mapObj kI er cr)] ∧ GOk S n eb cb el er ∧ S.map (·.2) = L ∧ n ≤ k

theorem IsG.ok {k : Int} {L : List Bond} {g : Nat} {C : Chunk} (h : IsG k L g C) : LOk L := by
  obtain ⟨mb, ml, mr, n, eb, cb, el, cl, er, cr, S, rfl, hg, rfl, hn⟩ := h
  exact hg.ok
theorem IsG.up {k k' : Int} {L : List Bond} {g : Nat} {C : Chunk} (h : IsG k L g C) (hk : k ≤ k') : IsG k' L g C := by
  obtain ⟨mb, ml, mr, n, eb, cb, el, cl, er, cr, S, e, hg, e', hn⟩ := h
  exact ⟨mb, ml, mr, n, eb, cb, el, cl, er, cr, S, e, hg, e', by omega⟩
theorem pairB_lt {a b : Int} (h : okTwo a b = true) : okPid (min a b) = true ∧ okPid (max a b) = true ∧ min a b < max a b := by
  simp only [okTwo, Bool.and_eq_true, decide_eq_true_eq, okPid] at h ⊢
  omega

section
variable {w0 w : World} {R : List Chunk} {k : Int} {L : List Bond} {g : Nat} {C : Chunk}

theorem g_link (hG : IsG k L g C) (hk : k < 9223372036854775807) (a b : Int) (hst : St w0 w (C :: R)) :
    Calls Tryd.prog 37 #[.pointer (some ⟨g, 0, none⟩), .int .i64 a, .int .i64 b] w (Post1 w0 R fun u C' => u = .int .i64 (lnk L a b).1 ∧ IsG (k + 1) (lnk L a b).2 g C') := by
  have hG0 := hG.up (show k ≤ k + 1 by omega)
  obtain ⟨mb, ml, mr, n, eb, cb, el, cl, er, cr, S, rfl, hg, rfl, hn⟩ := hG
  have hst := hst.le Le.open4
  have hlen := hg.len
  have hn0 := hg.n0
  unfold lnk
  by_cases hok : okTwo a b = false
  · rw [if_pos hok]
    exact calls4 (link_bad hok hst) fun u e => ⟨e, hG0⟩
  · rw [if_neg hok]
    have hok' : okTwo a b = true := by simpa using hok
    rcases hg.vall (min a b, max a b) with ⟨hv, hnm⟩ | ⟨s, hs, e, hv⟩
    · rw [if_neg (show pairB a b ∉ S.map (·.2) from hnm)]
      by_cases hf : 1024 ≤ (S.map (·.2)).length
      · rw [if_pos hf]
        exact calls4 (link_full hok' hv (by omega) hst) fun u e => ⟨e, hG0⟩
      · rw [if_neg hf]
        have h2 := pairB_lt hok'
        have hg2 := hg.addL (cl := cl) (p := (min a b, max a b)) (by omega) h2 hnm
        exact calls4 (link_new hok' hv (by omega) hn0 (by omega) hg.next hst) fun u e => ⟨e, mb, ml, mr, n + 1, _, _, _, _, er, cr, _, rfl, hg2, by simp [pairB], by omega⟩
    · rw [if_pos (show pairB a b ∈ S.map (·.2) from List.mem_map.2 ⟨s, hs, e⟩)]
      have := (hg.pos s hs).1
      exact calls4 (link_dup hok' hv (by omega) hst) fun u e => ⟨e, hG0⟩

theorem find_any {L : List Bond} {r : Int} (h : L.find? (isRef r) = none) : L.any (isRef r) = false := by
  rw [List.any_eq_false]
  exact fun x hx => by simpa using List.find?_eq_none.1 h x hx

theorem g_watch (hG : IsG k L g C) (hk : k < 9223372036854775807) (r f t : Int) (hst : St w0 w (C :: R)) :
    Calls Tryd.prog 42 #[.pointer (some ⟨g, 0, none⟩), .int .i64 r, .int .i64 f, .int .i64 t] w (Post1 w0 R fun u C' => u = .int .i64 (wat L r f t).1 ∧ IsG (k + 1) (wat L r f t).2 g C') := by
  have hG0 := hG.up (show k ≤ k + 1 by omega)
  obtain ⟨mb, ml, mr, n, eb, cb, el, cl, er, cr, S, rfl, hg, rfl, hn⟩ := hG
  have hst := hst.le Le.open4
  have hlen := hg.len
  have hn0 := hg.n0
  unfold wat
  by_cases hbad : (okRef r && okPid f && okPid t) = false
  · rw [if_pos hbad]
    exact calls4 (watch_bad hbad hst) fun u e => ⟨e, hG0⟩
  · rw [if_neg hbad]
    have hok : okRef r = true ∧ okPid f = true ∧ okPid t = true := by simpa using hbad
    obtain ⟨hr, hf, ht⟩ := hok
    have hr' : 1 ≤ r ∧ r ≤ 281474976710656 := by simpa [okRef] using hr
    rcases hg.valr r with ⟨hv, hfd⟩ | ⟨s, hs, e, h0, hv, hfd⟩
    · rw [if_neg (by rw [find_any hfd]; simp)]
      by_cases hfull : 1024 ≤ (S.map (·.2)).length
      · rw [if_pos hfull]
        exact calls4 (watch_full hr' hf ht hv (by omega) hst) fun u e => ⟨e, hG0⟩
      · rw [if_neg hfull]
        have hnr : ∀ c ∈ S.map (·.2), c.r ≠ r := fun c hc hcr => by
          have := List.find?_eq_none.1 hfd c hc
          simp [isRef, hcr] at this
          omega
        have hg2 := hg.addR (cr := cr) (b := ⟨f, t, r⟩) (by omega) ⟨hf, ht, by show 0 < r; omega⟩ hnr
        exact calls4 (watch_new hr' hf ht hv (by omega) hn0 (by omega) hg.next hst) fun u e => ⟨e, mb, ml, mr, n + 1, _, _, el, cl, _, _, _, rfl, hg2, by simp, by omega⟩
    · have hany : (S.map (·.2)).any (isRef r) = true := List.any_eq_true.2 ⟨s.2, hg.memL hs, by simp [isRef, e, h0]⟩
      rw [if_pos hany]
      have := (hg.pos s hs).1
      exact calls4 (watch_dup hr' hf ht hv (by omega) hst) fun u e => ⟨e, hG0⟩

theorem eraseP_of {L : List Bond} {p : Bond → Bool} {x : Bond} (h : L.find? p = some x) : L.eraseP p = L.erase x := by
  induction L with
  | nil => simp at h
  | cons y L ih =>
    by_cases hp : p y = true
    · simp only [List.find?_cons, hp, Option.some.injEq] at h
      subst h
      simp [hp]
    · have hp' : p y = false := by simpa using hp
      simp only [List.find?_cons, hp'] at h
      have hne : y ≠ x := fun e => by have := List.find?_some h; rw [← e] at this; exact hp this
      rw [List.eraseP_cons_of_neg (by simp [hp']), List.erase_cons_tail (by simpa using hne), ih h]

theorem g_end (hG : IsG k L g C) (p : Int) (hp : okPid p = true) (hst : St w0 w (C :: R)) :
    Calls Tryd.prog 40 #[.pointer (some ⟨g, 0, none⟩), .int .i64 p] w (Post2 w0 R fun u C' D => ∃ t, u = .tuple #[t, .int .i64 0] ∧ Sl 78 3 Bond.enc t (endT L p) D ∧ IsG k (endL L p) g C') := by
  obtain ⟨mb, ml, mr, n, eb, cb, el, cl, er, cr, S, rfl, hg, rfl, hn⟩ := hG
  have hst := hst.le Le.open4
  refine callsM2 (end_raw hp hg hst) ?_
  rintro u C' D ⟨t, e, ht, S2, eb2, el2, er2, rfl, hg2, hS2⟩
  exact ⟨t, e, ht, mb, ml, mr, n, eb2, cb, el2, cl, er2, cr, S2, rfl, hg2, hS2, hn⟩
theorem g_endN (hG : IsG k L g C) (p : Int) (hp : okPid p = false) (hst : St w0 w (C :: R)) :
    Calls Tryd.prog 40 #[.pointer (some ⟨g, 0, none⟩), .int .i64 p] w (Post1 w0 R fun u C' => u = .tuple #[.slice none 0 0, .int .i64 1] ∧ C' = C) := by
  obtain ⟨mb, ml, mr, n, eb, cb, el, cl, er, cr, S, rfl, hg, rfl, hn⟩ := hG
  have hst := hst.le Le.open4
  exact calls4 (end_bad hp hst) fun u e => ⟨e, rfl⟩
end

/-! ### the document's -/
section
variable {w0 w : World} {R : List Chunk} {L : List Bond} {rr : Nat} {C D : Chunk}
theorem RQ.open_ (h : RQ rr L C D) : ∃ a cap, C = [(rr, .cells [.slice a L.length cap].toArray 80 (0, 0))] ∧ Sl 78 3 Bond.enc (.slice a L.length cap) L D := by
  obtain ⟨v, rfl, hv⟩ := h
  obtain ⟨a, cap, rfl, _, _⟩ := hv.len
  exact ⟨a, cap, rfl, hv⟩
theorem pos_pair {b : Bond} : (pos (fun x => decide (x = b)) L = -1 ∧ b ∉ L) ∨ ∃ k : Nat, pos (fun x => decide (x = b)) L = (k : Int) ∧ k < L.length ∧ b ∈ L ∧ L.erase b = L.eraseIdx k := by
  rcases posA_ge (p := fun x => decide (x = b)) (L := L) (i := 0) (by omega) with ⟨h1, h2, h3⟩ | ⟨k, h1, x, h2, h3, h4, h5⟩
  · exact .inl ⟨h1, fun hm => by simpa using h3 b hm⟩
  · have hx : x = b := by simpa using h3
    subst hx
    refine .inr ⟨k, by unfold pos; rw [h1]; omega, (List.getElem?_eq_some_iff.1 h2).1, List.mem_of_getElem? h2, ?_⟩
    rw [← h5, eraseP_of h4]
theorem pos_ref {r : Int} : (pos (isRef r) L = -1 ∧ L.find? (isRef r) = none) ∨ ∃ (k : Nat) (x : Bond), pos (isRef r) L = (k : Int) ∧ L[k]? = some x ∧ isRef r x = true ∧ L.find? (isRef r) = some x ∧ L.eraseP (isRef r) = L.eraseIdx k := by
  rcases posA_ge (p := isRef r) (L := L) (i := 0) (by omega) with ⟨h1, h2, h3⟩ | ⟨k, h1, x, h2, h3, h4, h5⟩
  · exact .inl ⟨h1, h2⟩
  · exact .inr ⟨k, x, by unfold pos; rw [h1]; omega, h2, h3, h4, h5⟩

theorem r_link (hR : RQ rr L C D) (hl : L.length ≤ 1024) (a b : Int) (hst : St w0 w (C :: D :: R)) :
    Calls Tryd.prog 44 #[.pointer (some ⟨rr, 0, none⟩), .int .i64 a, .int .i64 b] w (Post2 w0 R fun u C' D' => u = .int .i64 (lnk L a b).1 ∧ RQ rr (lnk L a b).2 C' D') := by
  have hR0 := hR
  obtain ⟨a0, cap, rfl, hv⟩ := hR.open_
  unfold lnk
  by_cases hok : okTwo a b = false
  · rw [if_pos hok]
    exact calls2of0 (rlink_bad hok hv hl hst) fun u e => ⟨e, hR0⟩
  · rw [if_neg hok]
    have hok' : okPid a = true ∧ okPid b = true ∧ ¬a = b := by simpa [okTwo] using hok
    obtain ⟨ha, hb, hne⟩ := hok'
    rcases pos_pair (L := L) (b := pairB a b) with ⟨hp, hnm⟩ | ⟨k, hp, hk, hm, he⟩
    · rw [if_neg hnm]
      by_cases hf : 1024 ≤ L.length
      · rw [if_pos hf]
        exact calls2of0 (rlink_full ha hb hne hp hf hv hl hst) fun u e => ⟨e, hR0⟩
      · rw [if_neg hf]
        exact rlink_new ha hb hne hp hf hv hl hst
    · rw [if_pos hm]
      exact calls2of0 (rlink_dup ha hb hne (by rw [hp]; omega) hv hl hst) fun u e => ⟨e, hR0⟩
theorem r_watch (hR : RQ rr L C D) (hl : L.length ≤ 1024) (r f t : Int) (hst : St w0 w (C :: D :: R)) :
    Calls Tryd.prog 43 #[.pointer (some ⟨rr, 0, none⟩), .int .i64 r, .int .i64 f, .int .i64 t] w (Post2 w0 R fun u C' D' => u = .int .i64 (wat L r f t).1 ∧ RQ rr (wat L r f t).2 C' D') := by
  have hR0 := hR
  obtain ⟨a0, cap, rfl, hv⟩ := hR.open_
  unfold wat
  by_cases hbad : (okRef r && okPid f && okPid t) = false
  · rw [if_pos hbad]
    exact calls2of0 (rwat_bad hbad hv hl hst) fun u e => ⟨e, hR0⟩
  · rw [if_neg hbad]
    have hok : okRef r = true ∧ okPid f = true ∧ okPid t = true := by simpa using hbad
    obtain ⟨hr, hf, ht⟩ := hok
    have hr' : 1 ≤ r ∧ r ≤ 281474976710656 := by simpa [okRef] using hr
    rcases pos_ref (L := L) (r := r) with ⟨hp, hfd⟩ | ⟨k, x, hp, hx, hxr, hfd, he⟩
    · rw [if_neg (by rw [find_any hfd]; simp)]
      by_cases hfull : 1024 ≤ L.length
      · rw [if_pos hfull]
        exact calls2of0 (rwat_full hr' hf ht hp hfull hv hl hst) fun u e => ⟨e, hR0⟩
      · rw [if_neg hfull]
        exact rwat_new hr' hf ht hp hfull hv hl hst
    · rw [if_pos (List.any_eq_true.2 ⟨x, List.mem_of_getElem? hx, hxr⟩)]
      exact calls2of0 (rwat_dup hr' hf ht (by rw [hp]; omega) hv hl hst) fun u e => ⟨e, hR0⟩
theorem r_of (hR : RQ rr L C D) (hl : L.length ≤ 1024) (p : Int) (hst : St w0 w (C :: D :: R)) :
    Calls Tryd.prog 65 #[.pointer (some ⟨rr, 0, none⟩), .int .i64 p] w (Post1 w0 (C :: D :: R) fun u E => Sl 78 3 Bond.enc u (ofL L p) E) := by
  obtain ⟨a0, cap, rfl, hv⟩ := hR.open_
  exact rof_spec p hv hl hst
end
end Go.Proofs.YtdbpandamnkpdaaDoor
