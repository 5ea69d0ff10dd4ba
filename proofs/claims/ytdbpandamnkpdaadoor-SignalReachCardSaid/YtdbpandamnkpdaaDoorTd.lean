/-
  Who is reached, in plain Lean: by a search over links; by ends that spread.
-/
import Derived.Test.YtdbpandamnkpdaaDoorTb
set_option linter.unusedVariables false
set_option linter.unusedSimpArgs false
namespace Go.Proofs.YtdbpandamnkpdaaDoor
open Go Go.RowKit Go.Lib

/-- Reached over those that are let through. -/
inductive Rch (L : List Bond) (ok : Int → Prop) (p : Int) : Int → Prop
  | base {x : Int} : Adj L p x → ok x → Rch L ok p x
  | step {x y : Int} : Rch L ok p x → Adj L x y → ok y → Rch L ok p y
section
variable {L : List Bond} {ok : Int → Prop} {p q : Int}
theorem Rch.ok_ {x : Int} (h : Rch L ok p x) : ok x := by cases h <;> assumption
theorem Rch.pre {x : Int} (h0 : Adj L p q) (hq : ok q) (h : Rch L ok q x) : Rch L ok p x := by
  induction h with
  | base ha ho => exact .step (.base h0 hq) ha ho
  | step _ ha ho ih => exact .step ih ha ho
/-- What a search from p brings. -/
structure RS (L : List Bond) (ok : Int → Prop) (p : Int) (l l' : List Int) : Prop where
  sub : ∀ x ∈ l, x ∈ l'
  nd : l'.Nodup
  new : ∀ x ∈ l', x ∈ l ∨ Rch L ok p x
  top : ∀ q, Adj L p q → ok q → q ∈ l'
  all : ∀ x ∈ l', x ∉ l → ∀ q, Adj L x q → ok q → q ∈ l'
/-- The same, behind the first i of those next to p. -/
structure LS (L : List Bond) (ok : Int → Prop) (p : Int) (ps : List Int) (i : Nat) (l l' : List Int) : Prop where
  sub : ∀ x ∈ l, x ∈ l'
  nd : l'.Nodup
  new : ∀ x ∈ l', x ∈ l ∨ Rch L ok p x
  top : ∀ q ∈ ps.take i, ok q → q ∈ l'
  all : ∀ x ∈ l', x ∉ l → ∀ q, Adj L x q → ok q → q ∈ l'
theorem LS.start {ps l : List Int} (h : l.Nodup) : LS L ok p ps 0 l l := ⟨fun _ h => h, h, fun _ h => .inl h, fun q hq => by simp at hq, fun x h h2 => (h2 h).elim⟩
theorem mem_next {ps : List Int} {i : Nat} {x : Int} (hq : ps[i]? = some q) : x ∈ ps.take (i + 1) ↔ x ∈ ps.take i ∨ x = q := by
  rw [List.take_add_one, hq]; simp
theorem LS.skip {ps l l' : List Int} {i : Nat} (h : LS L ok p ps i l l') (hq : ps[i]? = some q) (hs : q ∈ l' ∨ ¬ ok q) : LS L ok p ps (i + 1) l l' :=
  ⟨h.sub, h.nd, h.new, fun x hx ho => by
    rcases (mem_next hq).1 hx with hx | rfl
    · exact h.top x hx ho
    · exact hs.elim id fun hn => (hn ho).elim, h.all⟩
theorem LS.go {ps l l' l2 : List Int} {i : Nat} (h : LS L ok p ps i l l') (hq : ps[i]? = some q) (ha : Adj L p q) (ho : ok q) (hn : q ∉ l') (hr : RS L ok q (l' ++ [q]) l2) : LS L ok p ps (i + 1) l l2 := by
  have hsub : ∀ x ∈ l', x ∈ l2 := fun x hx => hr.sub x (by simp [hx])
  have hq2 : q ∈ l2 := hr.sub q (by simp)
  refine ⟨fun x hx => hsub x (h.sub x hx), hr.nd, fun x hx => ?_, fun x hx hox => ?_, fun x hx hxl z haz hz => ?_⟩
  · rcases hr.new x hx with hx | hx
    · rcases List.mem_append.1 hx with hx | hx
      · exact h.new x hx
      · rw [List.mem_singleton.1 hx]; exact .inr (.base ha ho)
    · exact .inr (hx.pre ha ho)
  · rcases (mem_next hq).1 hx with hx | rfl
    · exact hsub x (h.top x hx hox)
    · exact hq2
  · by_cases hx1 : x ∈ l'
    · exact hsub z (h.all x hx1 hxl z haz hz)
    · by_cases hxq : x = q
      · subst hxq; exact hr.top z haz hz
      · exact hr.all x hx (by simp [hx1, hxq]) z haz hz
theorem LS.done {l l' : List Int} {i : Nat} (hL : LOk L) (h : LS L ok p (pls L p) i l l') (hi : (pls L p).length ≤ i) : RS L ok p l l' :=
  ⟨h.sub, h.nd, h.new, fun q ha ho => h.top q (by rw [List.take_of_length_le hi]; exact srt_mem.2 ((mem_peers hL).2 ha)) ho, h.all⟩
theorem filter_lt {f g : Int → Bool} : ∀ {s : List Int}, (∀ x, f x = true → g x = true) → (∃ x ∈ s, f x = false ∧ g x = true) → (s.filter f).length < (s.filter g).length
  | [], _, ⟨x, hx, _⟩ => by simp at hx
  | a :: s, h, ⟨x, hx, h1, h2⟩ => by
    have hle : ∀ s : List Int, (s.filter f).length ≤ (s.filter g).length := by
      intro s
      induction s with
      | nil => simp
      | cons a s ih =>
        cases hf : f a
        · cases hg : g a <;> simp [List.filter_cons, hf, hg] <;> omega
        · simp [List.filter_cons, hf, h a hf]; omega
    rcases List.mem_cons.1 hx with rfl | hx
    · have := hle s
      simp [List.filter_cons, h1, h2]; omega
    · have := filter_lt h ⟨x, hx, h1, h2⟩
      cases hf : f a
      · cases hg : g a <;> simp [List.filter_cons, hf, hg] <;> omega
      · simp [List.filter_cons, hf, h a hf]; omega
/-- Who lives and is not in the list. -/
def mz (live l : List Int) : Nat := ((setL live).filter fun x => decide (x ∉ l)).length
theorem mz_lt {live l l' : List Int} (hs : ∀ x ∈ l, x ∈ l') (hq : q ∈ live) (hn : q ∉ l') : mz live (l' ++ [q]) < mz live l := by
  unfold mz
  refine filter_lt (fun x hx => ?_) ⟨q, mem_setL.2 hq, by simp, by simp; exact fun h => hn (hs q h)⟩
  simp only [decide_eq_true_eq, List.mem_append, List.mem_singleton, not_or] at hx ⊢
  exact fun h => hx.1 (hs x h)
end

/-! ### ends that spread -/
/-- Those who live are those of live who did not end. -/
structure AS (live : List Int) (s : Sp) : Prop where
  al : ∀ q, q ∈ s.al ↔ q ∈ live ∧ q ∉ s.ds.map (·.1)
  nd : (s.ds.map (·.1)).Nodup
theorem bstep_as {live traps : List Int} {p : Int} {r : List Cl} {s : Sp} {b : Bond} (h : AS live s) : AS live (bstep traps p r s b) ∧ ∃ ext, (bstep traps p r s b).ds = s.ds ++ ext ∧
    (∀ e ∈ ext, e.2 = r ∧ isA r normalS = false ∧ ¬ 0 < b.r ∧ whoOf p b = e.1 ∧ e.1 ∉ traps ∧ e.1 ∈ live ∧ e.1 ∉ s.ds.map (·.1)) ∧
    (¬ 0 < b.r → isA r normalS = false → whoOf p b ∈ live → whoOf p b ∉ traps → whoOf p b ∈ (bstep traps p r s b).ds.map (·.1)) := by
  unfold bstep
  split
  · rename_i hw
    refine ⟨h, [], by simp, by simp, fun _ _ hl _ => ?_⟩
    rw [h.al] at hw
    exact Classical.not_not.1 fun hn => hw ⟨hl, hn⟩
  · rename_i hw
    have hw' : whoOf p b ∈ s.al := Classical.not_not.1 hw
    split
    · rename_i hr
      exact ⟨⟨h.al, h.nd⟩, [], by simp, by simp, fun hr' => (hr' hr).elim⟩
    · rename_i hr
      split
      · rename_i ht
        exact ⟨⟨h.al, h.nd⟩, [], by simp, by simp, fun _ _ _ ht' => (ht' ht).elim⟩
      · rename_i ht
        split
        · rename_i hn
          exact ⟨⟨h.al, h.nd⟩, [], by simp, by simp, fun _ hn' => by rw [hn] at hn'; cases hn'⟩
        · rename_i hn
          have hal := (h.al _).1 hw'
          refine ⟨⟨fun q => ?_, ?_⟩, [(whoOf p b, r)], rfl, fun e he => ?_, fun _ _ _ _ => by simp⟩
          · rw [mem_outL, h.al]
            simp only [List.map_append, List.map_cons, List.map_nil, List.mem_append, List.mem_singleton, not_or, and_assoc]
          · rw [List.map_append]
            exact List.nodup_append.2 ⟨h.nd, by simp, fun a ha c hc => by simp at hc; rw [hc]; rintro rfl; exact hal.2 ha⟩
          · rw [List.mem_singleton.1 he]
            exact ⟨rfl, by simpa using hn, hr, rfl, ht, hal.1, hal.2⟩
theorem bfold_as {live traps : List Int} {p : Int} {r : List Cl} : ∀ {l : List Bond} {s : Sp}, AS live s → AS live (l.foldl (bstep traps p r) s) ∧ ∃ ext, (l.foldl (bstep traps p r) s).ds = s.ds ++ ext ∧
    (∀ e ∈ ext, e.2 = r ∧ isA r normalS = false ∧ (∃ b ∈ l, ¬ 0 < b.r ∧ whoOf p b = e.1) ∧ e.1 ∉ traps ∧ e.1 ∈ live ∧ e.1 ∉ s.ds.map (·.1)) ∧
    (∀ b ∈ l, ¬ 0 < b.r → isA r normalS = false → whoOf p b ∈ live → whoOf p b ∉ traps → whoOf p b ∈ (l.foldl (bstep traps p r) s).ds.map (·.1))
  | [], s, h => ⟨h, [], by simp, by simp, by simp⟩
  | b :: l, s, h => by
    obtain ⟨h1, e1, hd1, hn1, hc1⟩ := bstep_as (traps := traps) (p := p) (r := r) (b := b) h
    obtain ⟨h2, e2, hd2, hn2, hc2⟩ := bfold_as (traps := traps) (p := p) (r := r) (l := l) h1
    rw [List.foldl_cons]
    refine ⟨h2, e1 ++ e2, by rw [hd2, hd1, List.append_assoc], fun e he => ?_, fun c hc hr hn hl ht => ?_⟩
    · rcases List.mem_append.1 he with he | he
      · obtain ⟨a1, a2, a3, a4, a5, a6, a7⟩ := hn1 e he
        exact ⟨a1, a2, ⟨b, by simp, a3, a4⟩, a5, a6, a7⟩
      · obtain ⟨a1, a2, ⟨c, hc, a3, a4⟩, a5, a6, a7⟩ := hn2 e he
        refine ⟨a1, a2, ⟨c, by simp [hc], a3, a4⟩, a5, a6, fun hm => a7 ?_⟩
        rw [hd1, List.map_append]; exact List.mem_append.2 (.inl hm)
    · rcases List.mem_cons.1 hc with rfl | hc
      · have := hc1 hr hn hl ht
        rw [hd2, List.map_append]; exact List.mem_append.2 (.inl this)
      · exact hc2 c hc hr hn hl ht
/-- Who may be brought. -/
def okR (live traps : List Int) (ds : List Dth) (q : Int) : Prop := q ∈ live ∧ q ∉ traps ∧ q ∉ ds.map (·.1)
/-- What holds when the first k deaths have brought theirs. -/
structure SI (bs : List Bond) (live traps : List Int) (ds : List Dth) (k : Nat) (s : Sp) (M : List Bond) : Prop where
  as_ : AS live s
  pre : ∀ d ∈ ds, d ∈ s.ds
  new : ∀ e ∈ s.ds, e ∈ ds ∨ (isA e.2 normalS = false ∧ ∃ d ∈ ds, isA d.2 normalS = false ∧ Rch bs (okR live traps ds) d.1 e.1)
  bnd : ∀ b, b ∈ M ↔ b ∈ bs ∧ ∀ (j : Nat) (e : Dth), j < k → s.ds[j]? = some e → ofP e.1 b = false
  clo : ∀ (j : Nat) (e : Dth), j < k → s.ds[j]? = some e → isA e.2 normalS = false → ∀ q, Adj bs e.1 q → okR live traps ds q → q ∈ s.ds.map (·.1)
theorem SI.start {bs : List Bond} {live traps : List Int} {ds : List Dth} (h : (ds.map (·.1)).Nodup) : SI bs live traps ds 0 (sp0 live ds) bs :=
  ⟨⟨fun q => mem_dieL, h⟩, fun _ h => h, fun _ h => .inl h, fun b => by simp, fun j e hj => by omega⟩
theorem who_adj {bs : List Bond} (hL : LOk bs) {b : Bond} {p : Int} (hb : b ∈ bs) (hp : ofP p b = true) (hr : ¬ 0 < b.r) : Adj bs p (whoOf p b) := by
  have h0 := (hL.ok b hb).2.2.1
  refine ⟨b, hb, by omega, ?_⟩
  unfold whoOf
  simp only [ofP, Bool.or_eq_true, decide_eq_true_eq] at hp
  by_cases hf : b.f = p
  · rw [if_pos hf]; exact .inl ⟨hf, rfl⟩
  · rw [if_neg hf]; exact .inr ⟨hp.resolve_left hf, rfl⟩
theorem SI.next {bs M : List Bond} {live traps : List Int} {ds : List Dth} {k : Nat} {s : Sp} (hL : LOk bs) (h : SI bs live traps ds k s M) : SI bs live traps ds (k + 1) (kstep traps (s, M) k).1 (kstep traps (s, M) k).2 := by
  cases hk : s.ds[k]? with
  | none =>
    have : kstep traps (s, M) k = (s, M) := by unfold kstep; rw [hk]
    rw [this]
    refine ⟨h.as_, h.pre, h.new, fun b => ?_, fun j e hj he => ?_⟩
    · rw [h.bnd]
      refine ⟨fun ⟨h1, h2⟩ => ⟨h1, fun j e hj he => ?_⟩, fun ⟨h1, h2⟩ => ⟨h1, fun j e hj he => h2 j e (by omega) he⟩⟩
      by_cases hjk : j = k
      · subst hjk; simp only at he; rw [hk] at he; cases he
      · exact h2 j e (by omega) he
    · by_cases hjk : j = k
      · subst hjk; simp only at he; rw [hk] at he; cases he
      · exact h.clo j e (by omega) he
  | some e =>
    have hks : kstep traps (s, M) k = ((endT M e.1).foldl (bstep traps e.1 e.2) s, endL M e.1) := by unfold kstep; rw [hk]
    rw [hks]
    obtain ⟨h2, ext, hd, hn, hc⟩ := bfold_as (traps := traps) (p := e.1) (r := e.2) (l := endT M e.1) h.as_
    have hklt := (List.getElem?_eq_some_iff.1 hk).1
    have hem := List.mem_of_getElem? hk
    have hget : ∀ j, j < k + 1 → ((endT M e.1).foldl (bstep traps e.1 e.2) s).ds[j]? = s.ds[j]? := fun j hj => by rw [hd, List.getElem?_append_left (by omega)]
    have hmono : ∀ q, q ∈ s.ds.map (·.1) → q ∈ ((endT M e.1).foldl (bstep traps e.1 e.2) s).ds.map (·.1) := fun q hq => by rw [hd, List.map_append]; exact List.mem_append.2 (.inl hq)
    refine ⟨h2, fun d hd2 => by rw [hd]; exact List.mem_append.2 (.inl (h.pre d hd2)), fun e2 he2 => ?_, fun b => ?_, fun j e2 hj he2 hn2 q ha ho => ?_⟩
    · rw [hd] at he2
      rcases List.mem_append.1 he2 with he2 | he2
      · exact h.new e2 he2
      · obtain ⟨a1, a2, ⟨b, hb, a3, a4⟩, a5, a6, a7⟩ := hn e2 he2
        have hbM : b ∈ M ∧ ofP e.1 b = true := by
          unfold endT ofL at hb
          have := (List.mem_filter.1 hb).1
          exact ⟨(List.mem_filter.1 this).1, (List.mem_filter.1 this).2⟩
        have hadj := who_adj hL ((h.bnd b).1 hbM.1).1 hbM.2 a3
        rw [a4] at hadj
        have hok : okR live traps ds e2.1 := ⟨a6, a5, fun hm => a7 (by
          obtain ⟨d, hd3, hd4⟩ := List.mem_map.1 hm
          exact List.mem_map.2 ⟨d, h.pre d hd3, hd4⟩)⟩
        refine .inr ⟨by rw [a1]; exact a2, ?_⟩
        rcases h.new e hem with hed | ⟨_, d, hd3, hd4, hd5⟩
        · exact ⟨e, hed, a2, .base hadj hok⟩
        · exact ⟨d, hd3, hd4, .step hd5 hadj hok⟩
    · unfold endL
      rw [List.mem_filter, h.bnd]
      refine ⟨fun ⟨⟨h1, h3⟩, h4⟩ => ⟨h1, fun j e2 hj he2 => ?_⟩, fun ⟨h1, h3⟩ => ⟨⟨h1, fun j e2 hj he2 => h3 j e2 (by omega) (by rw [hget j (by omega)]; exact he2)⟩, ?_⟩⟩
      · rw [hget j hj] at he2
        by_cases hjk : j = k
        · subst hjk; rw [hk] at he2; simp only [Option.some.injEq] at he2; rw [← he2]; simpa using h4
        · exact h3 j e2 (by omega) he2
      · have := h3 k e (by omega) (by rw [hget k (by omega)]; exact hk)
        simp [this]
    · rw [hget j hj] at he2
      by_cases hjk : j = k
      · subst hjk
        rw [hk] at he2
        simp only [Option.some.injEq] at he2
        subst he2
        by_cases hqd : q ∈ s.ds.map (·.1)
        · exact hmono q hqd
        · obtain ⟨b, hb, hr, hends⟩ := ha
          have hof : ofP e.1 b = true := by unfold ofP; rcases hends with ⟨h1, _⟩ | ⟨h1, _⟩ <;> simp [h1]
          have hlt := (hL.ok b hb).2.2.2 hr
          have hw : whoOf e.1 b = q := by
            unfold whoOf
            rcases hends with ⟨h1, h3⟩ | ⟨h1, h3⟩
            · rw [if_pos h1, h3]
            · rw [if_neg (by omega), h3]
          have hbM : b ∈ M := (h.bnd b).2 ⟨hb, fun j2 e2 hj2 he2 => by
            cases hof2 : ofP e2.1 b with
            | false => rfl
            | true =>
              exfalso
              have h5 : e2.1 = e.1 ∨ e2.1 = q := by
                simp only [ofP, Bool.or_eq_true, decide_eq_true_eq] at hof2
                rcases hends with ⟨h1, h3⟩ | ⟨h1, h3⟩ <;> rcases hof2 with h4 | h4 <;> omega
              rcases h5 with h5 | h5
              · have h6 : (s.ds.map (·.1))[j2]? = some e.1 := by rw [List.getElem?_map, he2]; simp [h5]
                have h7 : (s.ds.map (·.1))[j]? = some e.1 := by rw [List.getElem?_map, hk]; rfl
                have := (List.getElem?_inj (by simpa using Nat.lt_trans hj2 hklt) h.as_.nd).1 (h6.trans h7.symm)
                omega
              · exact hqd (List.mem_map.2 ⟨e2, List.mem_of_getElem? he2, h5⟩)⟩
          have hbT : b ∈ endT M e.1 := by
            unfold endT ofL
            exact List.mem_filter.2 ⟨List.mem_filter.2 ⟨hbM, hof⟩, by unfold told; simp [hr]⟩
          have := hc b hbT (by omega) hn2 (by rw [hw]; exact ho.1) (by rw [hw]; exact ho.2.1)
          rwa [hw] at this
      · exact hmono q (h.clo j e2 (by omega) he2 hn2 q ha ho)
theorem spN_si {bs : List Bond} {live traps : List Int} {ds : List Dth} (hL : LOk bs) (h : (ds.map (·.1)).Nodup) : ∀ k, SI bs live traps ds k (spN traps (sp0 live ds, bs) k).1 (spN traps (sp0 live ds, bs) k).2
  | 0 => SI.start h
  | k + 1 => (spN_si hL h k).next hL

/-- What the search from each death with a reason that is not normal brings, behind the first i. -/
structure WS (bs : List Bond) (live traps : List Int) (ds : List Dth) (i : Nat) (l : List Int) : Prop where
  pre : ∀ x ∈ ds.map (·.1), x ∈ l
  nd : l.Nodup
  new : ∀ x ∈ l, x ∈ ds.map (·.1) ∨ ∃ d ∈ ds, isA d.2 normalS = false ∧ Rch bs (okR live traps ds) d.1 x
  top : ∀ (j : Nat) (d : Dth), j < i → ds[j]? = some d → isA d.2 normalS = false → ∀ q, Adj bs d.1 q → okR live traps ds q → q ∈ l
  all : ∀ x ∈ l, x ∉ ds.map (·.1) → ∀ q, Adj bs x q → okR live traps ds q → q ∈ l
section
variable {bs : List Bond} {live traps : List Int} {ds : List Dth} {i : Nat} {l l' : List Int} {d : Dth}
theorem WS.start (h : (ds.map (·.1)).Nodup) : WS bs live traps ds 0 (ds.map (·.1)) := ⟨fun _ h => h, h, fun _ h => .inl h, fun j d hj => by omega, fun x h h2 => (h2 h).elim⟩
theorem WS.skip (h : WS bs live traps ds i l) (hd : ds[i]? = some d) (hn : isA d.2 normalS = true) : WS bs live traps ds (i + 1) l :=
  ⟨h.pre, h.nd, h.new, fun j e hj he hne => by
    by_cases hji : j = i
    · subst hji; rw [hd] at he; simp only [Option.some.injEq] at he; rw [← he, hn] at hne; cases hne
    · exact h.top j e (by omega) he hne, h.all⟩
theorem WS.go (h : WS bs live traps ds i l) (hd : ds[i]? = some d) (hn : isA d.2 normalS = false) (hr : RS bs (okR live traps ds) d.1 l l') : WS bs live traps ds (i + 1) l' :=
  ⟨fun x hx => hr.sub x (h.pre x hx), hr.nd, fun x hx => by
    rcases hr.new x hx with hx | hx
    · exact h.new x hx
    · exact .inr ⟨d, List.mem_of_getElem? hd, hn, hx⟩,
   fun j e hj he hne q ha ho => by
    by_cases hji : j = i
    · subst hji; rw [hd] at he; simp only [Option.some.injEq] at he; rw [← he] at ha; exact hr.top q ha ho
    · exact hr.sub q (h.top j e (by omega) he hne q ha ho),
   fun x hx hxf q ha ho => by
    by_cases hxl : x ∈ l
    · exact hr.sub q (h.all x hxl hxf q ha ho)
    · exact hr.all x hx hxl q ha ho⟩
/-- The two are the same. -/
theorem reach_same {s : Sp} {M : List Bond} (h : SI bs live traps ds s.ds.length s M) (hw : WS bs live traps ds ds.length l) : (∀ x, x ∈ s.ds.map (·.1) ↔ x ∈ l) ∧ (s.ds.map (·.1)).length = l.length := by
  have htop : ∀ d ∈ ds, isA d.2 normalS = false → ∀ q, Adj bs d.1 q → okR live traps ds q → q ∈ l := fun d hd hn => by
    obtain ⟨j, hj⟩ := List.getElem?_of_mem hd
    exact hw.top j d (List.getElem?_eq_some_iff.1 hj).1 hj hn
  have hclo : ∀ e ∈ s.ds, isA e.2 normalS = false → ∀ q, Adj bs e.1 q → okR live traps ds q → q ∈ s.ds.map (·.1) := fun e he hn => by
    obtain ⟨j, hj⟩ := List.getElem?_of_mem he
    exact h.clo j e (List.getElem?_eq_some_iff.1 hj).1 hj hn
  have hF : ∀ x ∈ ds.map (·.1), x ∈ s.ds.map (·.1) := fun x hx => by
    obtain ⟨d, hd, rfl⟩ := List.mem_map.1 hx
    exact List.mem_map.2 ⟨d, h.pre d hd, rfl⟩
  have h1 : ∀ d ∈ ds, isA d.2 normalS = false → ∀ x, Rch bs (okR live traps ds) d.1 x → x ∈ l := fun d hd hn x hx => by
    induction hx with
    | base ha ho => exact htop d hd hn _ ha ho
    | step hr ha ho ih => exact hw.all _ ih hr.ok_.2.2 _ ha ho
  have h2 : ∀ d ∈ ds, isA d.2 normalS = false → ∀ x, Rch bs (okR live traps ds) d.1 x → x ∈ s.ds.map (·.1) := fun d hd hn x hx => by
    induction hx with
    | base ha ho => exact hclo d (h.pre d hd) hn _ ha ho
    | step hr ha ho ih =>
      obtain ⟨e, he, rfl⟩ := List.mem_map.1 ih
      rcases h.new e he with hed | ⟨hne, _⟩
      · exact (hr.ok_.2.2 (List.mem_map.2 ⟨e, hed, rfl⟩)).elim
      · exact hclo e he hne _ ha ho
  have hiff : ∀ x, x ∈ s.ds.map (·.1) ↔ x ∈ l := fun x => by
    constructor
    · intro hx
      obtain ⟨e, he, rfl⟩ := List.mem_map.1 hx
      rcases h.new e he with hed | ⟨_, d, hd, hn, hr⟩
      · exact hw.pre _ (List.mem_map.2 ⟨e, hed, rfl⟩)
      · exact h1 d hd hn _ hr
    · intro hx
      rcases hw.new x hx with hx | ⟨d, hd, hn, hr⟩
      · exact hF x hx
      · exact h2 d hd hn x hr
  exact ⟨hiff, ((List.perm_ext_iff_of_nodup h.as_.nd hw.nd).2 hiff).length_eq⟩
end
end Go.Proofs.YtdbpandamnkpdaaDoor
