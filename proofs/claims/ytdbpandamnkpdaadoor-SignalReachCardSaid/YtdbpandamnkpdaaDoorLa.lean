/-
  The plain model of the bonds, as lists; and how the given graph's three maps lie over such a list.
-/
import Derived.Test.YtdbpandamnkpdaaDoorBm
set_option linter.unusedSimpArgs false
set_option linter.unusedVariables false
namespace Go.Proofs.YtdbpandamnkpdaaDoor
open Go Go.RowKit

structure Bond where
  f : Int
  t : Int
  r : Int
deriving DecidableEq

def Bond.enc (b : Bond) : List Value := [.int .i64 b.f, .int .i64 b.t, .int .i64 b.r]
def Bond.v (b : Bond) : Value := .agg b.enc.toArray
def Bond.zero : Bond := ⟨0, 0, 0⟩

def okPid (n : Int) : Bool := decide (1 ≤ n ∧ n ≤ 1099511627776)
def okRef (n : Int) : Bool := decide (1 ≤ n ∧ n ≤ 281474976710656)
def pairB (a b : Int) : Bond := ⟨min a b, max a b, 0⟩
def okTwo (a b : Int) : Bool := okPid a && okPid b && decide (a ≠ b)
def hasRef (L : List Bond) (r : Int) : Bool := decide (0 < r) && L.any fun b => decide (b.r = r)
def isRef (r : Int) (b : Bond) : Bool := decide (b.r = r) && decide (0 < r)

def lnk (L : List Bond) (a b : Int) : Int × List Bond :=
  if okTwo a b = false then (1, L) else if pairB a b ∈ L then (6, L) else if 1024 ≤ L.length then (8, L) else (0, L ++ [pairB a b])
def unl (L : List Bond) (a b : Int) : Int × List Bond :=
  if okTwo a b = false then (1, L) else if pairB a b ∈ L then (0, L.erase (pairB a b)) else (5, L)
def lkd (L : List Bond) (a b : Int) : Bool := okTwo a b && decide (pairB a b ∈ L)
def wat (L : List Bond) (r f t : Int) : Int × List Bond :=
  if (okRef r && okPid f && okPid t) = false then (1, L) else if L.any (isRef r) = true then (6, L) else if 1024 ≤ L.length then (8, L) else (0, L ++ [⟨f, t, r⟩])
def fnd (L : List Bond) (r : Int) : Bond × Int := match L.find? (isRef r) with
  | some b => (b, 0)
  | none => (.zero, 5)
def lev (L : List Bond) (r : Int) : (Bond × Int) × List Bond := (fnd L r, L.eraseP (isRef r))
def ofP (p : Int) (b : Bond) : Bool := decide (b.f = p) || decide (b.t = p)
def told (p : Int) (b : Bond) : Bool := decide (b.r = 0) || (decide (b.t = p) && decide (b.f ≠ p))
def ofL (L : List Bond) (p : Int) : List Bond := L.filter (ofP p)
def endT (L : List Bond) (p : Int) : List Bond := (ofL L p).filter (told p)
def endL (L : List Bond) (p : Int) : List Bond := L.filter fun b => !ofP p b

/-! ### entries with keys of their own -/
section
variable {κ : Type} [DecidableEq κ]
def keys (es : List (Ent κ)) : List κ := es.map (·.1)
theorem place_isSome {k : κ} {es : List (Ent κ)} (h : ∃ e ∈ es, e.1 = k) : (place k es 0).isSome := by
  cases hp : place k es 0 with
  | some _ => rfl
  | none => obtain ⟨e, he, hk⟩ := h; exact absurd hk (place_none hp e he)
theorem valOf_iff {k : κ} {v : Value} {es : List (Ent κ)} (hn : (keys es).Nodup) : valOf k es = some v ↔ ∃ c, (k, v, c) ∈ es := by
  constructor
  · intro h
    obtain ⟨i, hp⟩ := valOf_some h
    obtain ⟨e, h1, h2, h3⟩ := place_some hp
    refine ⟨e.2.2, ?_⟩
    rw [← h2, ← h3]
    exact List.mem_of_getElem? h1
  · rintro ⟨c, hc⟩
    have := place_isSome (k := k) ⟨_, hc, rfl⟩
    cases hp : place k es 0 with
    | none => rw [hp] at this; cases this
    | some q =>
      obtain ⟨i, u⟩ := q
      obtain ⟨e, h1, h2, h3⟩ := place_some hp
      have he := List.mem_of_getElem? h1
      have hinj : ∀ {l : List (Ent κ)}, (keys l).Nodup → ∀ {x y}, x ∈ l → y ∈ l → x.1 = y.1 → x = y := by
        intro l
        induction l with
        | nil => intro _ x y hx; cases hx
        | cons z l ih =>
          intro hn x y hx hy e
          simp only [keys, List.map_cons, List.nodup_cons] at hn
          rcases List.mem_cons.1 hx with rfl | hx' <;> rcases List.mem_cons.1 hy with rfl | hy'
          · rfl
          · exact absurd (List.mem_map.2 ⟨y, hy', e.symm⟩) hn.1
          · exact absurd (List.mem_map.2 ⟨x, hx', e⟩) hn.1
          · exact ih hn.2 hx' hy' e
      have := hinj hn he hc h2
      unfold valOf
      rw [hp, Option.map_some, ← h3, this]
theorem valOf_no {k : κ} {es : List (Ent κ)} (h : ∀ e ∈ es, e.1 ≠ k) : valOf k es = none := by
  cases hv : valOf k es with
  | none => rfl
  | some v =>
    obtain ⟨i, hp⟩ := valOf_some hv
    obtain ⟨e, h1, h2, h3⟩ := place_some hp
    exact absurd h2 (h e (List.mem_of_getElem? h1))
theorem delE_sub {k : κ} : ∀ {es : List (Ent κ)}, (delE k es).Sublist es
  | [] => .slnil
  | e :: es => by
    unfold delE
    split
    · exact List.sublist_cons_self _ _
    · exact delE_sub.cons_cons e
theorem delE_keys {k : κ} {es : List (Ent κ)} (h : (keys es).Nodup) : (keys (delE k es)).Nodup := h.sublist (delE_sub.map _)
theorem mem_delE {k : κ} {x : Ent κ} : ∀ {es : List (Ent κ)}, (keys es).Nodup → (x ∈ delE k es ↔ x ∈ es ∧ x.1 ≠ k)
  | [], _ => by simp [delE]
  | e :: es, h => by
    simp only [keys, List.map_cons, List.nodup_cons] at h
    unfold delE
    split
    · rename_i hk
      constructor
      · intro hx
        refine ⟨List.mem_cons_of_mem _ hx, fun e' => h.1 (List.mem_map.2 ⟨x, hx, by rw [e', hk]⟩)⟩
      · rintro ⟨hx, hne⟩
        rcases List.mem_cons.1 hx with rfl | hx
        · exact absurd hk.symm hne
        · exact hx
    · rename_i hk
      rw [List.mem_cons, List.mem_cons, mem_delE h.2]
      constructor
      · rintro (rfl | ⟨hx, hne⟩)
        · exact ⟨.inl rfl, fun e' => hk e'.symm⟩
        · exact ⟨.inr hx, hne⟩
      · rintro ⟨rfl | hx, hne⟩
        · exact .inl rfl
        · exact .inr ⟨hx, hne⟩
end

/-! ### which lists of bonds there are -/
structure LOk (L : List Bond) : Prop where
  len : L.length ≤ 1024
  ok : ∀ b ∈ L, okPid b.f = true ∧ okPid b.t = true ∧ 0 ≤ b.r ∧ (b.r = 0 → b.f < b.t)
  nd : L.Nodup
  ref : ∀ b ∈ L, ∀ c ∈ L, b.r = c.r → 0 < b.r → b = c

theorem LOk.nil : LOk [] := ⟨by simp, by simp, by simp, by simp⟩
theorem LOk.sub {L L' : List Bond} (h : LOk L) (hs : L'.Sublist L) : LOk L' :=
  ⟨Nat.le_trans hs.length_le h.len, fun b hb => h.ok b (hs.subset hb), h.nd.sublist hs, fun b hb c hc => h.ref b (hs.subset hb) c (hs.subset hc)⟩
theorem LOk.add {L : List Bond} (h : LOk L) (hl : L.length < 1024) {b : Bond} (hb : okPid b.f = true ∧ okPid b.t = true ∧ 0 ≤ b.r ∧ (b.r = 0 → b.f < b.t)) (hn : b ∉ L) (hr : 0 < b.r → ∀ c ∈ L, c.r ≠ b.r) : LOk (L ++ [b]) := by
  refine ⟨by simp; omega, ?_, ?_, ?_⟩
  · intro c hc
    rcases List.mem_append.1 hc with hc | hc
    · exact h.ok c hc
    · rw [List.mem_singleton.1 hc]; exact hb
  · rw [List.nodup_append]
    exact ⟨h.nd, by simp, fun x hx y hy => by rw [List.mem_singleton.1 hy]; exact fun e => hn (e ▸ hx)⟩
  · intro x hx y hy e hp
    rcases List.mem_append.1 hx with hx | hx <;> rcases List.mem_append.1 hy with hy | hy
    · exact h.ref x hx y hy e hp
    · rw [List.mem_singleton.1 hy] at e
      exact absurd e (hr (e ▸ hp) x hx)
    · rw [List.mem_singleton.1 hx] at e hp
      exact absurd e.symm (hr hp y hy)
    · rw [List.mem_singleton.1 hx, List.mem_singleton.1 hy]

/-! ### the graph's three maps over a list of numbered bonds -/
def kI (n : Int) : Value := .int .i64 n

structure GOk (S : List (Int × Bond)) (n : Int) (eb : List (Ent Int)) (cb : Nat) (el : List (Ent (Int × Int))) (er : List (Ent Int)) : Prop where
  ok : LOk (S.map (·.2))
  hb : eb.map (fun e => (e.1, e.2.1)) = S.map fun s => (s.1, s.2.v)
  st : Stamped eb cb
  inc : S.Pairwise fun x y => x.1 < y.1
  pos : ∀ s ∈ S, 1 ≤ s.1 ∧ s.1 ≤ n
  n0 : 0 ≤ n
  kl : (keys el).Nodup
  hl : ∀ p m, (∃ c, (p, m, c) ∈ el) ↔ ∃ s ∈ S, s.2 = ⟨p.1, p.2, 0⟩ ∧ m = .int .i64 s.1
  kr : (keys er).Nodup
  hr : ∀ r m, (∃ c, (r, m, c) ∈ er) ↔ 0 < r ∧ ∃ s ∈ S, s.2.r = r ∧ m = .int .i64 s.1

section
variable {S : List (Int × Bond)} {n : Int} {eb : List (Ent Int)} {cb : Nat} {el : List (Ent (Int × Int))} {er : List (Ent Int)}

theorem GOk.new : GOk [] 0 [] 0 [] [] :=
  ⟨.nil, rfl, ⟨by simp, by simp⟩, by simp, by simp, by simp, by simp [keys], by simp, by simp [keys], by simp⟩
theorem GOk.keysb (h : GOk S n eb cb el er) : keys eb = S.map (·.1) := by
  have := congrArg (List.map (fun x : Int × Value => x.1)) h.hb
  simp only [List.map_map] at this
  exact this
theorem GOk.kb (h : GOk S n eb cb el er) : (keys eb).Nodup := by
  rw [h.keysb]
  exact List.pairwise_map.2 (h.inc.imp fun hxy e => by omega)
theorem GOk.len (h : GOk S n eb cb el er) : eb.length = (S.map (·.2)).length := by
  have := congrArg List.length h.hb
  simpa using this
theorem GOk.inj (h : GOk S n eb cb el er) {s u : Int × Bond} (hs : s ∈ S) (hu : u ∈ S) (e : s.2 = u.2) : s = u := by
  have hnd := h.ok.nd
  clear h
  induction S with
  | nil => cases hs
  | cons z l ih =>
    simp only [List.map_cons, List.nodup_cons] at hnd
    rcases List.mem_cons.1 hs with rfl | hs' <;> rcases List.mem_cons.1 hu with rfl | hu'
    · rfl
    · exact absurd (List.mem_map.2 ⟨u, hu', e.symm⟩) hnd.1
    · exact absurd (List.mem_map.2 ⟨s, hs', e⟩) hnd.1
    · exact ih hs' hu' hnd.2
theorem GOk.inj1 (h : GOk S n eb cb el er) {s u : Int × Bond} (hs : s ∈ S) (hu : u ∈ S) (e : s.1 = u.1) : s = u := by
  have hnd : (S.map (·.1)).Nodup := h.keysb ▸ h.kb
  clear h
  induction S with
  | nil => cases hs
  | cons z l ih =>
    simp only [List.map_cons, List.nodup_cons] at hnd
    rcases List.mem_cons.1 hs with rfl | hs' <;> rcases List.mem_cons.1 hu with rfl | hu'
    · rfl
    · exact absurd (List.mem_map.2 ⟨u, hu', e.symm⟩) hnd.1
    · exact absurd (List.mem_map.2 ⟨s, hs', e⟩) hnd.1
    · exact ih hs' hu' hnd.2
theorem GOk.memb (h : GOk S n eb cb el er) {k : Int} {v : Value} : (∃ c, (k, v, c) ∈ eb) ↔ ∃ s ∈ S, s.1 = k ∧ v = s.2.v := by
  constructor
  · rintro ⟨c, hc⟩
    have : (k, v) ∈ eb.map (fun e => (e.1, e.2.1)) := List.mem_map.2 ⟨_, hc, rfl⟩
    rw [h.hb] at this
    obtain ⟨s, hs, e⟩ := List.mem_map.1 this
    simp only [Prod.mk.injEq] at e
    exact ⟨s, hs, e.1, e.2.symm⟩
  · rintro ⟨s, hs, rfl, rfl⟩
    have : (s.1, s.2.v) ∈ S.map fun s => (s.1, s.2.v) := List.mem_map.2 ⟨s, hs, rfl⟩
    rw [← h.hb] at this
    obtain ⟨e, he, e'⟩ := List.mem_map.1 this
    simp only [Prod.mk.injEq] at e'
    refine ⟨e.2.2, ?_⟩
    rw [← e'.1, ← e'.2]
    exact he
theorem GOk.valb (h : GOk S n eb cb el er) {s : Int × Bond} (hs : s ∈ S) : valOf s.1 eb = some s.2.v := (valOf_iff h.kb).2 (h.memb.2 ⟨s, hs, rfl, rfl⟩)
theorem GOk.next (h : GOk S n eb cb el er) : valOf (n + 1) eb = none := valOf_no fun e he hk => by
  obtain ⟨s, hs, e1, _⟩ := h.memb.1 ⟨_, he⟩
  have := (h.pos s hs).2
  omega
/-- What the two look-ups answer. -/
theorem GOk.vall (h : GOk S n eb cb el er) (p : Int × Int) : (valOf p el = none ∧ (⟨p.1, p.2, 0⟩ : Bond) ∉ S.map (·.2)) ∨ ∃ s ∈ S, s.2 = ⟨p.1, p.2, 0⟩ ∧ valOf p el = some (.int .i64 s.1) := by
  cases hv : valOf p el with
  | none =>
    refine .inl ⟨rfl, fun hm => ?_⟩
    obtain ⟨s, hs, e⟩ := List.mem_map.1 hm
    have := (valOf_iff h.kl).2 ((h.hl p (.int .i64 s.1)).2 ⟨s, hs, e, rfl⟩)
    rw [hv] at this; cases this
  | some m =>
    obtain ⟨s, hs, e, rfl⟩ := (h.hl p m).1 ((valOf_iff h.kl).1 hv)
    exact .inr ⟨s, hs, e, rfl⟩
theorem GOk.valr (h : GOk S n eb cb el er) (r : Int) : (valOf r er = none ∧ (S.map (·.2)).find? (isRef r) = none) ∨ ∃ s ∈ S, s.2.r = r ∧ 0 < r ∧ valOf r er = some (.int .i64 s.1) ∧ (S.map (·.2)).find? (isRef r) = some s.2 := by
  cases hv : valOf r er with
  | none =>
    refine .inl ⟨rfl, List.find?_eq_none.2 fun b hb he => ?_⟩
    obtain ⟨s, hs, rfl⟩ := List.mem_map.1 hb
    simp only [isRef, Bool.and_eq_true, decide_eq_true_eq] at he
    have := (valOf_iff h.kr).2 ((h.hr r (.int .i64 s.1)).2 ⟨he.2, s, hs, he.1, rfl⟩)
    rw [hv] at this; cases this
  | some m =>
    obtain ⟨h0, s, hs, e, rfl⟩ := (h.hr r m).1 ((valOf_iff h.kr).1 hv)
    refine .inr ⟨s, hs, e, h0, rfl, ?_⟩
    cases hf : (S.map (·.2)).find? (isRef r) with
    | none =>
      have := List.find?_eq_none.1 hf s.2 (List.mem_map.2 ⟨s, hs, rfl⟩)
      simp [isRef, e, h0] at this
    | some c =>
      have h1 := List.find?_some hf
      have h2 := List.mem_of_find?_eq_some hf
      simp only [isRef, Bool.and_eq_true, decide_eq_true_eq] at h1
      rw [h.ok.ref c h2 s.2 (List.mem_map.2 ⟨s, hs, rfl⟩) (by rw [h1.1, e]) (by omega)]

theorem GOk.memL (h : GOk S n eb cb el er) {s : Int × Bond} (hs : s ∈ S) : s.2 ∈ S.map (·.2) := List.mem_map.2 ⟨s, hs, rfl⟩

/-- A bond goes. -/
theorem map_filter_erase {S : List (Int × Bond)} (hn : (S.map (·.2)).Nodup) (h1 : (S.map (·.1)).Nodup) {s : Int × Bond} (hs : s ∈ S) : (S.filter fun x => decide (x.1 ≠ s.1)).map (·.2) = (S.map (·.2)).erase s.2 := by
  induction S with
  | nil => cases hs
  | cons z l ih =>
    simp only [List.map_cons, List.nodup_cons] at hn h1
    rcases List.mem_cons.1 hs with rfl | hs'
    · have : l.filter (fun x => decide (x.1 ≠ s.1)) = l := List.filter_eq_self.2 fun x hx => by
        simp only [decide_eq_true_eq]
        exact fun e => h1.1 (List.mem_map.2 ⟨x, hx, e⟩)
      rw [List.filter_cons, if_neg (by simp), this, List.map_cons, List.erase_cons_head]
    · have hne1 : z.1 ≠ s.1 := fun e => h1.1 (List.mem_map.2 ⟨s, hs', e.symm⟩)
      have hne2 : z.2 ≠ s.2 := fun e => hn.1 (List.mem_map.2 ⟨s, hs', e.symm⟩)
      simp only [List.filter_cons, hne1, ne_eq, not_false_eq_true, decide_true, if_true, List.map_cons]
      rw [List.erase_cons_tail (by simpa using hne2), ← ih hn.2 h1.2 hs']
theorem delE_filter {κ : Type} [DecidableEq κ] {k : κ} : ∀ {es : List (Ent κ)}, (keys es).Nodup → delE k es = es.filter fun e => decide (e.1 ≠ k)
  | [], _ => rfl
  | e :: es, h => by
    simp only [keys, List.map_cons, List.nodup_cons] at h
    unfold delE
    split
    · rename_i hk
      have : es.filter (fun x => decide (x.1 ≠ k)) = es := List.filter_eq_self.2 fun x hx => by
        simp only [decide_eq_true_eq]
        exact fun e' => h.1 (List.mem_map.2 ⟨x, hx, by rw [e', hk]⟩)
      rw [List.filter_cons, if_neg (by simp [hk]), this]
    · rename_i hk
      have hk' : e.1 ≠ k := fun e' => hk e'.symm
      simp only [List.filter_cons, hk', ne_eq, not_false_eq_true, decide_true, if_true]
      rw [delE_filter h.2]

theorem Stamped.del {κ : Type} [DecidableEq κ] {k : κ} {es : List (Ent κ)} {c : Nat} (h : Stamped es c) : Stamped (delE k es) c :=
  ⟨h.1.sublist (delE_sub.map _), fun e he => h.2 e (delE_sub.subset he)⟩
theorem Stamped.add {κ : Type} {k : κ} {v : Value} {es : List (Ent κ)} {c : Nat} (h : Stamped es c) : Stamped (es ++ [(k, v, c)]) (c + 1) := by
  refine ⟨?_, ?_⟩
  · rw [List.map_append, List.nodup_append]
    refine ⟨h.1, by simp, ?_⟩
    intro x hx y hy
    obtain ⟨e, he, rfl⟩ := List.mem_map.1 hx
    have := h.2 e he
    simp only [List.map_cons, List.map_nil, List.mem_singleton] at hy
    omega
  · intro e he
    rcases List.mem_append.1 he with he | he
    · have := h.2 e he; omega
    · rw [List.mem_singleton.1 he]; show c < c + 1; omega

theorem GOk.outS (h : GOk S n eb cb el er) {s : Int × Bond} (hs : s ∈ S) : (S.filter fun x => decide (x.1 ≠ s.1)).map (·.2) = (S.map (·.2)).erase s.2 :=
  map_filter_erase h.ok.nd (h.keysb ▸ h.kb) hs
theorem GOk.outB (h : GOk S n eb cb el er) (k : Int) : (delE k eb).map (fun e => (e.1, e.2.1)) = (S.filter fun x => decide (x.1 ≠ k)).map fun s => (s.1, s.2.v) := by
  rw [delE_filter h.kb]
  have h1 : (eb.filter fun e => decide (e.1 ≠ k)).map (fun e => (e.1, e.2.1)) = (eb.map (fun e => (e.1, e.2.1))).filter fun x => decide (x.1 ≠ k) := by
    rw [List.filter_map]; rfl
  have h2 : (S.filter fun x => decide (x.1 ≠ k)).map (fun s => (s.1, s.2.v)) = (S.map fun s => (s.1, s.2.v)).filter fun x => decide (x.1 ≠ k) := by
    rw [List.filter_map]; rfl
  rw [h1, h2, h.hb]

theorem GOk.out (h : GOk S n eb cb el er) {s : Int × Bond} (hs : s ∈ S) :
    GOk (S.filter fun x => decide (x.1 ≠ s.1)) n (delE s.1 eb) cb (if s.2.r = 0 then delE (s.2.f, s.2.t) el else el) (if s.2.r = 0 then er else delE s.2.r er) := by
  have hmem : ∀ u, u ∈ (S.filter fun x => decide (x.1 ≠ s.1)) ↔ u ∈ S ∧ u ≠ s := by
    intro u
    rw [List.mem_filter]
    simp only [decide_eq_true_eq]
    exact ⟨fun ⟨a, b⟩ => ⟨a, fun e => b (by rw [e])⟩, fun ⟨a, b⟩ => ⟨a, fun e => b (h.inj1 a hs e)⟩⟩
  refine ⟨h.ok.sub (List.filter_sublist.map _), h.outB _, h.st.del, h.inc.filter _, fun u hu => h.pos u ((hmem u).1 hu).1, h.n0, ?_, ?_, ?_, ?_⟩
  · split
    · exact delE_keys h.kl
    · exact h.kl
  · intro p m
    split
    · rename_i h0
      constructor
      · rintro ⟨c, hc⟩
        rw [mem_delE h.kl] at hc
        obtain ⟨u, hu, e, rfl⟩ := (h.hl p m).1 ⟨c, hc.1⟩
        refine ⟨u, (hmem u).2 ⟨hu, fun e' => hc.2 ?_⟩, e, rfl⟩
        rw [e'] at e
        show p = _
        rw [e]
      · rintro ⟨u, hu, e, rfl⟩
        rw [hmem] at hu
        obtain ⟨c, hc⟩ := (h.hl p (.int .i64 u.1)).2 ⟨u, hu.1, e, rfl⟩
        refine ⟨c, (mem_delE h.kl).2 ⟨hc, fun e' => hu.2 (h.inj hu.1 hs ?_)⟩⟩
        simp only at e'
        rw [e, e']
        rcases hq : s.2 with ⟨a, b, d⟩
        rw [hq] at h0
        simp_all
    · rename_i h0
      rw [h.hl p m]
      constructor
      · rintro ⟨u, hu, e, rfl⟩
        exact ⟨u, (hmem u).2 ⟨hu, fun e' => h0 (by rw [← e', e])⟩, e, rfl⟩
      · rintro ⟨u, hu, e, rfl⟩
        exact ⟨u, ((hmem u).1 hu).1, e, rfl⟩
  · split
    · exact h.kr
    · exact delE_keys h.kr
  · intro r m
    split
    · rename_i h0
      rw [h.hr r m]
      constructor
      · rintro ⟨hp, u, hu, e, rfl⟩
        exact ⟨hp, u, (hmem u).2 ⟨hu, fun e' => by rw [← e, e', h0] at hp; omega⟩, e, rfl⟩
      · rintro ⟨hp, u, hu, e, rfl⟩
        exact ⟨hp, u, ((hmem u).1 hu).1, e, rfl⟩
    · rename_i h0
      constructor
      · rintro ⟨c, hc⟩
        rw [mem_delE h.kr] at hc
        obtain ⟨hp, u, hu, e, rfl⟩ := (h.hr r m).1 ⟨c, hc.1⟩
        exact ⟨hp, u, (hmem u).2 ⟨hu, fun e' => hc.2 (by rw [← e, e'])⟩, e, rfl⟩
      · rintro ⟨hp, u, hu, e, rfl⟩
        rw [hmem] at hu
        obtain ⟨c, hc⟩ := (h.hr r (.int .i64 u.1)).2 ⟨hp, u, hu.1, e, rfl⟩
        refine ⟨c, (mem_delE h.kr).2 ⟨hc, fun e' => hu.2 (h.inj hu.1 hs ?_)⟩⟩
        simp only at e'
        exact h.ok.ref _ (h.memL hu.1) _ (h.memL hs) (by rw [e, e']) (by rw [e]; exact hp)

/-- A link comes. -/
theorem GOk.addL (h : GOk S n eb cb el er) (hlen : (S.map (·.2)).length < 1024) {p : Int × Int} {cl : Nat} (hp : okPid p.1 = true ∧ okPid p.2 = true ∧ p.1 < p.2) (hn : (⟨p.1, p.2, 0⟩ : Bond) ∉ S.map (·.2)) :
    GOk (S ++ [(n + 1, ⟨p.1, p.2, 0⟩)]) (n + 1) (eb ++ [(n + 1, (⟨p.1, p.2, 0⟩ : Bond).v, cb)]) (cb + 1) (el ++ [(p, .int .i64 (n + 1), cl)]) er := by
  refine ⟨?_, ?_, h.st.add, ?_, ?_, by have := h.n0; omega, ?_, ?_, h.kr, ?_⟩
  · rw [List.map_append]
    exact h.ok.add hlen ⟨hp.1, hp.2.1, by simp, fun _ => hp.2.2⟩ hn (fun h0 => by simp at h0)
  · rw [List.map_append, List.map_append, h.hb]; rfl
  · rw [List.pairwise_append]
    refine ⟨h.inc, by simp, fun x hx y hy => ?_⟩
    rw [List.mem_singleton.1 hy]
    have := (h.pos x hx).2
    show x.1 < n + 1
    omega
  · intro s hs
    rcases List.mem_append.1 hs with hs | hs
    · have := h.pos s hs; omega
    · rw [List.mem_singleton.1 hs]; have := h.n0; simp; omega
  · rw [keys, List.map_append, List.nodup_append]
    refine ⟨h.kl, by simp, ?_⟩
    intro x hx y hy
    obtain ⟨e, he, rfl⟩ := List.mem_map.1 hx
    simp only [List.map_cons, List.map_nil, List.mem_singleton] at hy
    rw [hy]
    intro e'
    obtain ⟨s, hs, e1, _⟩ := (h.hl p e.2.1).1 ⟨e.2.2, by rw [← e']; exact he⟩
    exact hn (e1 ▸ h.memL hs)
  · intro q m
    constructor
    · rintro ⟨c, hc⟩
      rcases List.mem_append.1 hc with hc | hc
      · obtain ⟨s, hs, e1, e2⟩ := (h.hl q m).1 ⟨c, hc⟩
        exact ⟨s, List.mem_append_left _ hs, e1, e2⟩
      · simp only [List.mem_singleton, Prod.mk.injEq] at hc
        obtain ⟨rfl, rfl, rfl⟩ := hc
        exact ⟨(n + 1, ⟨q.1, q.2, 0⟩), List.mem_append_right _ (by simp), rfl, rfl⟩
    · rintro ⟨s, hs, e1, e2⟩
      rcases List.mem_append.1 hs with hs | hs
      · obtain ⟨c, hc⟩ := (h.hl q m).2 ⟨s, hs, e1, e2⟩
        exact ⟨c, List.mem_append_left _ hc⟩
      · rw [List.mem_singleton.1 hs] at e1 e2
        simp only [Bond.mk.injEq, and_true] at e1
        refine ⟨cl, List.mem_append_right _ ?_⟩
        simp only [List.mem_singleton, Prod.mk.injEq, and_true]
        exact ⟨Prod.ext e1.1.symm e1.2.symm, e2⟩
  · intro r m
    rw [h.hr r m]
    constructor
    · rintro ⟨h0, s, hs, e1, e2⟩
      exact ⟨h0, s, List.mem_append_left _ hs, e1, e2⟩
    · rintro ⟨h0, s, hs, e1, e2⟩
      rcases List.mem_append.1 hs with hs | hs
      · exact ⟨h0, s, hs, e1, e2⟩
      · rw [List.mem_singleton.1 hs] at e1
        simp only at e1
        omega
/-- A monitor comes. -/
theorem GOk.addR (h : GOk S n eb cb el er) (hlen : (S.map (·.2)).length < 1024) {b : Bond} {cr : Nat} (hp : okPid b.f = true ∧ okPid b.t = true ∧ 0 < b.r) (hn : ∀ c ∈ S.map (·.2), c.r ≠ b.r) :
    GOk (S ++ [(n + 1, b)]) (n + 1) (eb ++ [(n + 1, b.v, cb)]) (cb + 1) el (er ++ [(b.r, .int .i64 (n + 1), cr)]) := by
  refine ⟨?_, ?_, h.st.add, ?_, ?_, by have := h.n0; omega, h.kl, ?_, ?_, ?_⟩
  · rw [List.map_append]
    exact h.ok.add hlen ⟨hp.1, hp.2.1, Int.le_of_lt hp.2.2, fun e => absurd e (by have := hp.2.2; show b.r ≠ 0; omega)⟩ (fun hm => hn b hm rfl) (fun _ => hn)
  · rw [List.map_append, List.map_append, h.hb]; rfl
  · rw [List.pairwise_append]
    refine ⟨h.inc, by simp, fun x hx y hy => ?_⟩
    rw [List.mem_singleton.1 hy]
    have := (h.pos x hx).2
    show x.1 < n + 1
    omega
  · intro s hs
    rcases List.mem_append.1 hs with hs | hs
    · have := h.pos s hs; omega
    · rw [List.mem_singleton.1 hs]; have := h.n0; simp; omega
  · intro p m
    rw [h.hl p m]
    constructor
    · rintro ⟨s, hs, e1, e2⟩
      exact ⟨s, List.mem_append_left _ hs, e1, e2⟩
    · rintro ⟨s, hs, e1, e2⟩
      rcases List.mem_append.1 hs with hs | hs
      · exact ⟨s, hs, e1, e2⟩
      · rw [List.mem_singleton.1 hs] at e1
        simp only at e1
        rw [e1] at hp
        simp at hp
  · rw [keys, List.map_append, List.nodup_append]
    refine ⟨h.kr, by simp, ?_⟩
    intro x hx y hy
    obtain ⟨e, he, rfl⟩ := List.mem_map.1 hx
    simp only [List.map_cons, List.map_nil, List.mem_singleton] at hy
    rw [hy]
    intro e'
    obtain ⟨_, s, hs, e1, _⟩ := (h.hr b.r e.2.1).1 ⟨e.2.2, by rw [← e']; exact he⟩
    exact hn _ (h.memL hs) e1
  · intro q m
    constructor
    · rintro ⟨c, hc⟩
      rcases List.mem_append.1 hc with hc | hc
      · obtain ⟨h0, s, hs, e1, e2⟩ := (h.hr q m).1 ⟨c, hc⟩
        exact ⟨h0, s, List.mem_append_left _ hs, e1, e2⟩
      · simp only [List.mem_singleton, Prod.mk.injEq] at hc
        obtain ⟨rfl, rfl, rfl⟩ := hc
        exact ⟨hp.2.2, (n + 1, b), List.mem_append_right _ (by simp), rfl, rfl⟩
    · rintro ⟨h0, s, hs, e1, e2⟩
      rcases List.mem_append.1 hs with hs | hs
      · obtain ⟨c, hc⟩ := (h.hr q m).2 ⟨h0, s, hs, e1, e2⟩
        exact ⟨c, List.mem_append_left _ hc⟩
      · rw [List.mem_singleton.1 hs] at e1 e2
        simp only at e1 e2
        refine ⟨cr, List.mem_append_right _ ?_⟩
        simp only [List.mem_singleton, Prod.mk.injEq, and_true]
        exact ⟨e1.symm, e2⟩
end
end Go.Proofs.YtdbpandamnkpdaaDoor
