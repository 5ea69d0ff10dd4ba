/-
  Deaths and messages in memory; who lives, in a map; what is wrong of what is handed in; how ends spread. No walk here.
-/
import Derived.Test.YtdbpandamnkpdaaDoorSd
import Derived.Test.YtdbpandamnkpdaaDoorBu
set_option linter.unusedSimpArgs false
set_option linter.unusedVariables false
namespace Go.Proofs.YtdbpandamnkpdaaDoor
open Go Go.RowKit Go.Lib

/-- A death, or a message, as it lies: a number, and a slice. -/
structure Dv where
  p : Int
  a : Option Addr
  n : Nat
  c : Nat
def Dv.sl (d : Dv) : Value := .slice d.a d.n d.c
def Dv.enc (d : Dv) : List Value := [.int .i64 d.p, d.sl]
def Dv.v (d : Dv) : Value := .agg d.enc.toArray
theorem encD_ok : Enc 2 Dv.enc := fun x => ⟨rfl, by intro u hu; simp only [Dv.enc, List.mem_cons, List.not_mem_nil, or_false] at hu; rcases hu with rfl | rfl <;> rfl⟩
abbrev Dth := Int × List Cl
/-- What lies says what is meant. -/
def Rel (S : World → Prop) (dvs : List Dv) (ds : List Dth) : Prop :=
  dvs.length = ds.length ∧ ∀ (i : Nat) (x : Dv) (d : Dth), dvs[i]? = some x → ds[i]? = some d → x.p = d.1 ∧ Els S x.sl 3 Cl.enc 57 d.2
theorem Rel.nil {S : World → Prop} : Rel S [] [] := ⟨rfl, fun i x d h => by simp at h⟩
theorem Rel.at {S : World → Prop} {dvs : List Dv} {ds : List Dth} (h : Rel S dvs ds) {i : Nat} {x : Dv} (hx : dvs[i]? = some x) : ∃ d, ds[i]? = some d ∧ x.p = d.1 ∧ Els S x.sl 3 Cl.enc 57 d.2 := by
  have hi : i < ds.length := by rw [← h.1]; exact (List.getElem?_eq_some_iff.1 hx).1
  exact ⟨_, List.getElem?_eq_getElem hi, h.2 i x _ hx (List.getElem?_eq_getElem hi)⟩
theorem Rel.mono {S S' : World → Prop} {dvs : List Dv} {ds : List Dth} (h : Rel S dvs ds) (hS : ∀ w, S' w → S w) : Rel S' dvs ds :=
  ⟨h.1, fun i x d hx hd => let ⟨h1, h2⟩ := h.2 i x d hx hd; ⟨h1, h2.mono fun b o hb w hw => hb w (hS w hw)⟩⟩
theorem Rel.snoc {S : World → Prop} {dvs : List Dv} {ds : List Dth} (h : Rel S dvs ds) {x : Dv} {d : Dth} (h1 : x.p = d.1) (h2 : Els S x.sl 3 Cl.enc 57 d.2) : Rel S (dvs ++ [x]) (ds ++ [d]) := by
  refine ⟨by simp [h.1], fun i y e hy he => ?_⟩
  by_cases hi : i < dvs.length
  · rw [List.getElem?_append_left hi] at hy
    rw [List.getElem?_append_left (by rw [← h.1]; exact hi)] at he
    exact h.2 i y e hy he
  · have hl : i = dvs.length := by
      have := (List.getElem?_eq_some_iff.1 hy).1
      simp at this; omega
    subst hl
    simp only [List.getElem?_concat_length, Option.some.injEq] at hy
    subst hy
    rw [h.1] at he
    simp only [List.getElem?_concat_length, Option.some.injEq] at he
    subst he
    exact ⟨h1, h2⟩
theorem Rel.inC {w0 : World} {C : Chunk} {H : List Chunk} {dvs : List Dv} {ds : List Dth} (h : Rel (HoldsC C) dvs ds) (hC : C ∈ H) : Rel (fun w => St w0 w H) dvs ds := h.mono fun w hs => HoldsC.of hC hs
theorem Rel.more {C D : Chunk} {dvs : List Dv} {ds : List Dth} (h : Rel (HoldsC C) dvs ds) : Rel (HoldsC (D ++ C)) dvs ds := h.mono fun w hs x hx => hs x (by simp [hx])
theorem Rel.sub {w0 : World} {H H' : List Chunk} {dvs : List Dv} {ds : List Dth} (h : Rel (fun w => St w0 w H) dvs ds) (hl : Le H H') : Rel (fun w => St w0 w H') dvs ds := h.mono fun w hs => hs.le hl
/-- A slice as a Dv's. -/
def dvOf (p : Int) (v : Value) : Dv := match v with | .slice a n c => ⟨p, a, n, c⟩ | _ => ⟨p, none, 0, 0⟩
theorem dvOf_sl {p : Int} {S : World → Prop} {v : Value} {xs : List Cl} (h : Els S v 3 Cl.enc 57 xs) : (dvOf p v).sl = v := by
  obtain ⟨a, cap, rfl⟩ := h.len
  rfl

/-! ### who lives -/
structure MOk (es : List (Ent Int)) (al : List Int) : Prop where
  keys : es.map (·.1) = al
  val : ∀ e ∈ es, e.2.1 = .bool true
  nd : al.Nodup
theorem MOk.nil : MOk [] [] := ⟨rfl, by simp, by simp⟩
section
variable {es : List (Ent Int)} {clk : Nat} {al : List Int} {q : Int}
theorem MOk.yes (h : MOk es al) (hq : q ∈ al) : valOf q es = some (.bool true) := by
  refine (valOf_iff (by show (es.map (·.1)).Nodup; rw [h.keys]; exact h.nd)).2 ?_
  rw [← h.keys] at hq
  obtain ⟨e, he, rfl⟩ := List.mem_map.1 hq
  exact ⟨e.2.2, by rw [← h.val e he]; exact he⟩
theorem MOk.no (h : MOk es al) (hq : q ∉ al) : valOf q es = none := valOf_no fun e he hk => hq (by rw [← h.keys, ← hk]; exact List.mem_map.2 ⟨e, he, rfl⟩)
/-- One more, who may be there already. -/
def putL (al : List Int) (q : Int) : List Int := if q ∈ al then al else al ++ [q]
theorem MOk.add (h : MOk es al) (hq : q ∉ al) : MOk (es ++ [(q, .bool true, clk)]) (putL al q) := by
  unfold putL
  rw [if_neg hq]
  exact ⟨by rw [List.map_append, h.keys]; rfl, fun e he => by
    rcases List.mem_append.1 he with he | he
    · exact h.val e he
    · rw [List.mem_singleton.1 he], List.nodup_append.2 ⟨h.nd, by simp, fun a ha b hb => by rw [List.mem_singleton.1 hb]; rintro rfl; exact hq ha⟩⟩
theorem setE_same {v : Value} : ∀ {es : List (Ent Int)}, (∀ e ∈ es, e.2.1 = v) → setE q v es = es
  | [], _ => rfl
  | e :: es, h => by
    unfold setE
    have he : e.2.1 = v := h e (by simp)
    split
    · rw [← he]
    · rw [setE_same fun e he => h e (by simp [he])]
theorem MOk.old (h : MOk es al) (hq : q ∈ al) : setE q (.bool true) es = es ∧ putL al q = al := ⟨setE_same h.val, by unfold putL; rw [if_pos hq]⟩
/-- One less. -/
def outL (al : List Int) (q : Int) : List Int := al.filter fun x => decide (x ≠ q)
theorem MOk.del (h : MOk es al) : MOk (delE q es) (outL al q) := by
  have hk : (Go.Proofs.YtdbpandamnkpdaaDoor.keys es).Nodup := by show (es.map (·.1)).Nodup; rw [h.keys]; exact h.nd
  rw [delE_filter hk]
  refine ⟨?_, fun e he => h.val e (List.mem_filter.1 he).1, h.nd.sublist List.filter_sublist⟩
  unfold outL
  rw [← h.keys, List.filter_map]
  rfl
end
theorem mem_putL {al : List Int} {p q : Int} : q ∈ putL al p ↔ q ∈ al ∨ q = p := by
  unfold putL
  split
  · constructor
    · exact .inl
    · rintro (h | rfl) <;> assumption
  · simp
theorem mem_outL {al : List Int} {p q : Int} : q ∈ outL al p ↔ q ∈ al ∧ q ≠ p := by simp [outL]
theorem outL_len {al : List Int} {p : Int} (hn : al.Nodup) (hp : p ∈ al) : (outL al p).length + 1 = al.length := by
  have : outL al p = al.erase p := by
    unfold outL
    rw [List.Nodup.erase_eq_filter hn]
    apply List.filter_congr
    intro x hx
    by_cases hxp : x = p <;> simp [hxp]
  rw [this, List.length_erase_of_mem hp]
  have := List.length_pos_of_mem hp
  omega
/-- All of a list. -/
def setL (l : List Int) : List Int := l.foldl putL []
theorem mem_foldPut {q : Int} : ∀ {l al : List Int}, q ∈ l.foldl putL al ↔ q ∈ al ∨ q ∈ l
  | [], al => by simp
  | p :: l, al => by rw [List.foldl_cons, mem_foldPut, mem_putL]; simp [or_assoc]
theorem mem_setL {q : Int} {l : List Int} : q ∈ setL l ↔ q ∈ l := by unfold setL; rw [mem_foldPut]; simp
theorem setL_snoc {l : List Int} {i : Nat} {p : Int} (h : l[i]? = some p) : setL (l.take (i + 1)) = putL (setL (l.take i)) p := by
  unfold setL
  rw [List.take_add_one, h]
  simp [List.foldl_append]
/-- Numbers that differ, from 1 to n, are no more than n. -/
theorem nodup_bound : ∀ (n : Nat) (l : List Int), l.Nodup → (∀ x ∈ l, 1 ≤ x ∧ x ≤ (n : Int)) → l.length ≤ n
  | 0, l, _, h => by
    cases l with
    | nil => simp
    | cons x l => have := h x (by simp); omega
  | n + 1, l, hn, h => by
    by_cases hm : ((n : Int) + 1) ∈ l
    · have h2 := nodup_bound n (l.erase ((n : Int) + 1)) (hn.erase _) fun x hx => by
        have h3 := h x (List.mem_of_mem_erase hx)
        have h4 : x ≠ (n : Int) + 1 := fun e => by rw [e] at hx; exact (List.Nodup.mem_erase_iff hn).1 hx |>.1 rfl
        exact ⟨h3.1, by push_cast at h3; omega⟩
      rw [List.length_erase_of_mem hm] at h2
      omega
    · have h2 := nodup_bound n l hn fun x hx => by
        have h3 := h x hx
        have h4 : x ≠ (n : Int) + 1 := fun e => hm (e ▸ hx)
        exact ⟨h3.1, by push_cast at h3; omega⟩
      omega

theorem Rel.pids {S : World → Prop} {dvs : List Dv} {ds : List Dth} (h : Rel S dvs ds) : dvs.map (·.p) = ds.map (·.1) := by
  apply List.ext_getElem?
  intro i
  simp only [List.getElem?_map]
  by_cases hi : i < dvs.length
  · obtain ⟨x, hx⟩ : ∃ x, dvs[i]? = some x := ⟨_, List.getElem?_eq_getElem hi⟩
    obtain ⟨d, hd, hp, _⟩ := h.at hx
    simp [hx, hd, hp]
  · rw [List.getElem?_eq_none (by omega), List.getElem?_eq_none (by rw [← h.1]; omega)]
    rfl
theorem dup_at {l : List Int} {i : Nat} {p : Int} (hx : l[i]? = some p) (hm : p ∈ l.take i) : ¬ l.Nodup := by
  intro hn
  rw [← List.take_append_drop i l, drop_cons hx] at hn
  exact (List.nodup_append.1 hn).2.2 p hm p (by simp) rfl
theorem nodup_next {l : List Int} {i : Nat} {p : Int} (hx : l[i]? = some p) (hm : p ∉ l.take i) (hn : (l.take i).Nodup) : (l.take (i + 1)).Nodup := by
  rw [List.take_add_one, hx]
  exact List.nodup_append.2 ⟨hn, by simp, fun a ha b hb => by simp at hb; rw [hb]; rintro rfl; exact hm ha⟩
/-- What was handed in: a slice of deaths. -/
def Fst (S : World → Prop) (v : Value) (dvs : List Dv) (ds : List Dth) : Prop :=
  ∃ a cap, v = .slice a dvs.length cap ∧ dvs.length ≤ cap ∧ (0 < dvs.length → ∀ q, a = some q → q.spot = none) ∧ Els S v 2 Dv.enc 48 dvs ∧ Rel S dvs ds
theorem Fst.els {S : World → Prop} {v : Value} {dvs : List Dv} {ds : List Dth} (h : Fst S v dvs ds) : Els S v 2 Dv.enc 48 dvs := let ⟨_, _, _, _, _, h, _⟩ := h; h
theorem Fst.rel {S : World → Prop} {v : Value} {dvs : List Dv} {ds : List Dth} (h : Fst S v dvs ds) : Rel S dvs ds := let ⟨_, _, _, _, _, _, h⟩ := h; h
theorem Fst.sub {w0 : World} {H H' : List Chunk} {v : Value} {dvs : List Dv} {ds : List Dth} (h : Fst (fun w => St w0 w H) v dvs ds) (hl : Le H H') : Fst (fun w => St w0 w H') v dvs ds := by
  obtain ⟨a, cap, e, h1, h2, h3, h4⟩ := h
  exact ⟨a, cap, e, h1, h2, h3.sub hl, h4.sub hl⟩

/-! ### what is wrong -/
def firstR : List Dth → Int
  | [] => 0
  | d :: r => if (rightE d.2).1 ≠ 0 then (rightE d.2).1 else firstR r
def wrongM (live traps : List Int) (ds : List Dth) : Int :=
  if (live.all okPid && traps.all okPid && ds.all fun d => okPid d.1) = false then 1
  else if firstR ds ≠ 0 then firstR ds
  else if ¬ (ds.map (·.1)).Nodup then 6
  else if (ds.all fun d => decide (d.1 ∈ live)) = false then 131
  else 0
section
variable {live traps : List Int} {ds : List Dth} {i : Nat} {d : Dth}
theorem wrong_pid (h : (live.all okPid && traps.all okPid && ds.all fun d => okPid d.1) = false) : wrongM live traps ds = 1 := by unfold wrongM; rw [if_pos h]
theorem wrong_bad (h : (live.all okPid && traps.all okPid && ds.all fun d => okPid d.1) = true) (h2 : firstR ds ≠ 0) : wrongM live traps ds = firstR ds := by unfold wrongM; rw [if_neg (by simp [h]), if_pos h2]
theorem wrong_twice (h : (live.all okPid && traps.all okPid && ds.all fun d => okPid d.1) = true) (h2 : firstR ds = 0) (h3 : ¬ (ds.map (·.1)).Nodup) : wrongM live traps ds = 6 := by unfold wrongM; rw [if_neg (by simp [h]), if_neg (by omega), if_pos h3]
theorem wrong_gone (h : (live.all okPid && traps.all okPid && ds.all fun d => okPid d.1) = true) (h2 : firstR ds = 0) (h3 : (ds.map (·.1)).Nodup) (h4 : (ds.all fun d => decide (d.1 ∈ live)) = false) : wrongM live traps ds = 131 := by unfold wrongM; rw [if_neg (by simp [h]), if_neg (by omega), if_neg (by simpa using h3), if_pos h4]
theorem wrong_ok (h : (live.all okPid && traps.all okPid && ds.all fun d => okPid d.1) = true) (h2 : firstR ds = 0) (h3 : (ds.map (·.1)).Nodup) (h4 : (ds.all fun d => decide (d.1 ∈ live)) = true) : wrongM live traps ds = 0 := by unfold wrongM; rw [if_neg (by simp [h]), if_neg (by omega), if_neg (by simpa using h3), if_neg (by simp [h4])]
theorem firstR_at (h : ds[i]? = some d) (h2 : (rightE d.2).1 ≠ 0) : firstR (ds.drop i) = (rightE d.2).1 := by rw [drop_cons h]; unfold firstR; rw [if_pos h2]
theorem firstR_next (h : ds[i]? = some d) (h2 : (rightE d.2).1 = 0) : firstR (ds.drop i) = firstR (ds.drop (i + 1)) := by
  rw [drop_cons h]
  conv => lhs; unfold firstR
  rw [if_neg (by omega)]
theorem allT_next {α : Type} {f : α → Bool} {l : List α} {x : α} (h : l[i]? = some x) (h2 : f x = true) (h3 : (l.take i).all f = true) : (l.take (i + 1)).all f = true := by
  rw [List.take_add_one, h]
  simp only [Option.toList_some, List.all_append, h3, List.all_cons, h2, List.all_nil, Bool.and_self]
theorem allT_no {α : Type} {f : α → Bool} {l : List α} {x : α} (h : l[i]? = some x) (h2 : f x = false) : l.all f = false := by
  rw [List.all_eq_false]
  exact ⟨x, List.mem_of_getElem? h, by simp [h2]⟩
theorem firstR_zero : ∀ {ds : List Dth}, firstR ds = 0 → ∀ d ∈ ds, (rightE d.2).1 = 0
  | [], _, d, hd => by simp at hd
  | e :: r, h, d, hd => by
    unfold firstR at h
    by_cases he : (rightE e.2).1 ≠ 0
    · rw [if_pos he] at h; exact (he h).elim
    · rw [if_neg he] at h
      rcases List.mem_cons.1 hd with rfl | hd
      · omega
      · exact firstR_zero h d hd
/-- What comes of no fault. -/
theorem wrong_zero (h : wrongM live traps ds = 0) : (∀ p ∈ live, okPid p = true) ∧ (∀ p ∈ traps, okPid p = true) ∧ (∀ d ∈ ds, okPid d.1 = true) ∧ (∀ d ∈ ds, (rightE d.2).1 = 0) ∧ (ds.map (·.1)).Nodup ∧ ∀ d ∈ ds, d.1 ∈ live := by
  unfold wrongM at h
  split at h
  · simp at h
  · rename_i h1
    split at h
    · rename_i h2; exact (h2 h).elim
    · rename_i h2
      split at h
      · simp at h
      · rename_i h3
        split at h
        · simp at h
        · rename_i h4
          simp only [Bool.not_eq_false, Bool.and_eq_true, List.all_eq_true] at h1
          simp only [Bool.not_eq_false, List.all_eq_true, decide_eq_true_eq] at h4
          exact ⟨h1.1.1, h1.1.2, h1.2, firstR_zero (by omega), by simpa using h3, h4⟩
end

/-! ### how ends spread -/
structure Sp where
  al : List Int
  ds : List Dth
  ts : List Dth
def whoOf (p : Int) (b : Bond) : Int := if b.f = p then b.t else b.f
/-- What one bond brings. -/
def bstep (traps : List Int) (p : Int) (r : List Cl) (s : Sp) (b : Bond) : Sp :=
  if whoOf p b ∉ s.al then s
  else if 0 < b.r then ⟨s.al, s.ds, s.ts ++ [(whoOf p b, (downM b.r p r).1)]⟩
  else if whoOf p b ∈ traps then ⟨s.al, s.ds, s.ts ++ [(whoOf p b, (exitM p r).1)]⟩
  else if isA r normalS = true then s
  else ⟨outL s.al (whoOf p b), s.ds ++ [(whoOf p b, r)], s.ts⟩
/-- What the k-th death brings. -/
def kstep (traps : List Int) (s : Sp × List Bond) (k : Nat) : Sp × List Bond :=
  match s.1.ds[k]? with
  | none => s
  | some d => ((endT s.2 d.1).foldl (bstep traps d.1 d.2) s.1, endL s.2 d.1)
def spN (traps : List Int) (s : Sp × List Bond) : Nat → Sp × List Bond
  | 0 => s
  | k + 1 => kstep traps (spN traps s k) k
/-- At the start: the deaths that were handed in. -/
def sp0 (live : List Int) (ds : List Dth) : Sp := ⟨ds.foldl (fun a d => outL a d.1) (setL live), ds, []⟩
end Go.Proofs.YtdbpandamnkpdaaDoor
