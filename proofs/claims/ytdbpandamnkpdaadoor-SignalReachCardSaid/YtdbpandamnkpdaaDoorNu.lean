/-
  Right texts, as plain law: what a decoder rune by rune says of bytes agrees with the library's.
-/
import Derived.Test.YtdbpandamnkpdaaDoorBm
import Derived.Lib.ValidLaws
set_option linter.unusedSimpArgs false
set_option linter.unusedVariables false
namespace Go.Proofs.YtdbpandamnkpdaaDoor
open Go Go.RowKit Go.Lib

def bt (l : Str) (j : Nat) : Nat := (l.getD j 0).toNat
theorem bt_lt (l : Str) (j : Nat) : bt l j < 256 := (l.getD j 0).toNat_lt
theorem bt_drop {s : Str} {i k : Nat} {c : UInt8} (h : s[i + k]? = some c) : bt (s.drop i) k = c.toNat := by
  unfold bt
  rw [List.getD_eq_getElem?_getD, List.getElem?_drop, h]; rfl
def cont (b : Nat) : Prop := 128 ≤ b ∧ b ≤ 191
/-- How many bytes follow a lead byte. -/
def lead (n b : Nat) : Prop := (n = 1 ∧ 194 ≤ b ∧ b < 224) ∨ (n = 2 ∧ 224 ≤ b ∧ b < 240) ∨ (n = 3 ∧ 240 ≤ b ∧ b < 245)
def rr (l : Str) (m : Nat) : Nat → Nat
  | 0 => 0
  | 1 => bt l 0 % m
  | k + 2 => rr l m (k + 1) * 64 + bt l (k + 1) % 64
theorem rr_next {l : Str} {m k : Nat} (h : 1 ≤ k) : rr l m (k + 1) = rr l m k * 64 + bt l k % 64 := by
  obtain ⟨k, rfl⟩ : ∃ j, k = j + 1 := ⟨k - 1, by omega⟩
  rfl
theorem rr_lt {l : Str} {m k : Nat} (hm : 0 < m) (h32 : m ≤ 32) (hk : k ≤ 4) : rr l m k < 8388608 := by
  have h0 : rr l m 1 < 32 := by
    have : bt l 0 % m < m := Nat.mod_lt _ hm
    show bt l 0 % m < 32; omega
  have h1 : rr l m 2 < 2048 := by have : rr l m 2 = rr l m 1 * 64 + bt l 1 % 64 := rr_next (by omega); omega
  have h2 : rr l m 3 < 131072 := by have : rr l m 3 = rr l m 2 * 64 + bt l 2 % 64 := rr_next (by omega); omega
  have h3 : rr l m 4 < 8388608 := by have : rr l m 4 = rr l m 3 * 64 + bt l 3 % 64 := rr_next (by omega); omega
  match k, hk with
  | 0, _ => show (0 : Nat) < 8388608; omega
  | 1, _ => omega
  | 2, _ => omega
  | 3, _ => omega
  | 4, _ => omega

theorem vd (l : Str) (hne : l ≠ []) : validD l = if (decodeN l.length (bt l 0) (bt l 1) (bt l 2) (bt l 3)).1 = 65533 ∧ (decodeN l.length (bt l 0) (bt l 1) (bt l 2) (bt l 3)).2 = 1 then false else validD (l.drop (decodeN l.length (bt l 0) (bt l 1) (bt l 2) (bt l 3)).2) := by
  rw [validD_step l hne, decodeL_N]; rfl
theorem vd_bad {l : Str} (hne : l ≠ []) (h : decodeN l.length (bt l 0) (bt l 1) (bt l 2) (bt l 3) = (65533, 1)) : validD l = false := by
  rw [vd l hne, h]; rfl
theorem vd_ok {l : Str} (hne : l ≠ []) {r k : Nat} (h : decodeN l.length (bt l 0) (bt l 1) (bt l 2) (bt l 3) = (r, k)) (hk : k ≠ 1) : validD l = validD (l.drop k) := by
  rw [vd l hne, h]; simp [hk]
theorem vd_ascii {s : Str} {i : Nat} {c : UInt8} (h : s[i]? = some c) (hc : c.toNat < 128) : validD (s.drop i) = validD (s.drop (i + 1)) := by
  have hlt := (List.getElem?_eq_some_iff.1 h).1
  have e : s.drop i = c :: s.drop (i + 1) := by
    rw [← (List.getElem?_eq_some_iff.1 h).2, ← List.drop_eq_getElem_cons hlt]
  rw [e, validD_cons _ _ hc]
theorem vd_lead {l : Str} (hne : l ≠ []) (h : (128 ≤ bt l 0 ∧ bt l 0 < 194) ∨ 245 ≤ bt l 0) : validD l = false :=
  vd_bad hne (decodeN_bad _ _ _ _ _ (by have := bt_lt l 0; omega))
set_option maxRecDepth 100000 in
set_option maxHeartbeats 4000000 in
theorem vd_short {l : Str} {n k : Nat} (hb : lead n (bt l 0)) (hk1 : 1 ≤ k) (hk : k ≤ n) (hbad : l.length ≤ k ∨ ¬ cont (bt l k)) : validD l = false := by
  by_cases hne : l = []
  · subst hne
    have : bt [] 0 = 0 := rfl
    rw [this] at hb
    unfold lead at hb; omega
  refine vd_bad hne ?_
  have h1 := bt_lt l 1
  have h2 := bt_lt l 2
  have h3 := bt_lt l 3
  unfold lead at hb
  unfold cont at hbad
  have hk3 : k = 1 ∨ k = 2 ∨ k = 3 := by omega
  generalize bt l 0 = b0 at *
  unfold decodeN
  rcases hk3 with rfl | rfl | rfl
  all_goals
    generalize bt l 1 = b1 at *
    generalize bt l 2 = b2 at *
    generalize bt l 3 = b3 at *
    repeat' split
    all_goals first | rfl | (exfalso; omega)
def floorR (n : Nat) : Nat := if n = 1 then 128 else if n = 2 then 2048 else 65536
def modu (n : Nat) : Nat := if n = 1 then 32 else if n = 2 then 16 else 8
def badR (n r : Nat) : Prop := r < floorR n ∨ 1114111 < r ∨ (55296 ≤ r ∧ r < 57344)
theorem rr_4 {l : Str} {m : Nat} : rr l m 2 = bt l 0 % m * 64 + bt l 1 % 64 ∧ rr l m 3 = (bt l 0 % m * 64 + bt l 1 % 64) * 64 + bt l 2 % 64 ∧ rr l m 4 = ((bt l 0 % m * 64 + bt l 1 % 64) * 64 + bt l 2 % 64) * 64 + bt l 3 % 64 := ⟨rfl, rfl, rfl⟩
set_option maxRecDepth 100000 in
set_option maxHeartbeats 8000000 in
theorem vd_full {l : Str} {n : Nat} (hb : lead n (bt l 0)) (hall : ∀ j, 1 ≤ j → j < n + 1 → j < l.length ∧ cont (bt l j)) :
    (badR n (rr l (modu n) (n + 1)) → validD l = false) ∧ (¬ badR n (rr l (modu n) (n + 1)) → validD l = validD (l.drop (n + 1))) := by
  have hne : l ≠ [] := by
    rintro rfl
    have : bt [] 0 = 0 := rfl
    rw [this] at hb
    unfold lead at hb; omega
  have hq := rr_4 (l := l) (m := modu n)
  unfold lead at hb
  unfold cont at hall
  unfold badR floorR
  rcases hb with ⟨rfl, hb⟩ | ⟨rfl, hb⟩ | ⟨rfl, hb⟩
  · have a1 := hall 1 (by omega) (by omega)
    rw [show (1 : Nat) + 1 = 2 from rfl, hq.1]
    simp only [modu, if_pos]
    constructor
    · intro h
      exfalso
      generalize bt l 0 = b0 at *
      generalize bt l 1 = b1 at *
      omega
    · intro _
      refine vd_ok hne (r := bt l 0 % 32 * 64 + bt l 1 % 64) ?_ (by omega)
      generalize bt l 0 = b0 at *
      generalize bt l 1 = b1 at *
      unfold decodeN
      rw [if_neg (by omega), if_pos (by omega), if_pos (by omega)]
  · have a1 := hall 1 (by omega) (by omega)
    have a2 := hall 2 (by omega) (by omega)
    rw [show (2 : Nat) + 1 = 3 from rfl, hq.2.1]
    have em : modu 2 = 16 := rfl
    rw [em]
    simp only [show ¬ ((2 : Nat) = 1) from by omega, if_false, if_true]
    have key : bt l 0 % 16 * 4096 + bt l 1 % 64 * 64 + bt l 2 % 64 = (bt l 0 % 16 * 64 + bt l 1 % 64) * 64 + bt l 2 % 64 := by omega
    constructor
    · intro h
      refine vd_bad hne ?_
      unfold decodeN
      generalize bt l 0 = b0 at *
      generalize bt l 1 = b1 at *
      generalize bt l 2 = b2 at *
      rw [if_neg (by omega), if_neg (by omega), if_pos (by omega), if_neg (by omega)]
    · intro h
      refine vd_ok hne (r := bt l 0 % 16 * 4096 + bt l 1 % 64 * 64 + bt l 2 % 64) ?_ (by omega)
      unfold decodeN
      generalize bt l 0 = b0 at *
      generalize bt l 1 = b1 at *
      generalize bt l 2 = b2 at *
      rw [if_neg (by omega), if_neg (by omega), if_pos (by omega), if_pos (by omega)]
  · have a1 := hall 1 (by omega) (by omega)
    have a2 := hall 2 (by omega) (by omega)
    have a3 := hall 3 (by omega) (by omega)
    rw [show (3 : Nat) + 1 = 4 from rfl, hq.2.2]
    have em : modu 3 = 8 := rfl
    rw [em]
    simp only [show ¬ ((3 : Nat) = 1) from by omega, show ¬ ((3 : Nat) = 2) from by omega, if_false]
    have key : bt l 0 % 8 * 262144 + bt l 1 % 64 * 4096 + bt l 2 % 64 * 64 + bt l 3 % 64 = ((bt l 0 % 8 * 64 + bt l 1 % 64) * 64 + bt l 2 % 64) * 64 + bt l 3 % 64 := by omega
    constructor
    · intro h
      refine vd_bad hne ?_
      unfold decodeN
      generalize bt l 0 = b0 at *
      generalize bt l 1 = b1 at *
      generalize bt l 2 = b2 at *
      generalize bt l 3 = b3 at *
      rw [if_neg (by omega), if_neg (by omega), if_neg (by omega), if_pos (by omega), if_neg (by omega)]
    · intro h
      refine vd_ok hne (r := bt l 0 % 8 * 262144 + bt l 1 % 64 * 4096 + bt l 2 % 64 * 64 + bt l 3 % 64) ?_ (by omega)
      unfold decodeN
      generalize bt l 0 = b0 at *
      generalize bt l 1 = b1 at *
      generalize bt l 2 = b2 at *
      generalize bt l 3 = b3 at *
      rw [if_neg (by omega), if_neg (by omega), if_neg (by omega), if_pos (by omega), if_pos (by omega)]

theorem mask_cont (c : UInt8) : bits .and .u8 (c.toNat : Int) 192 = 128 ↔ cont c.toNat := by
  have h := lead_mask ⟨c.toNat, c.toNat_lt⟩
  simp only [ne_eq] at h
  unfold cont
  constructor
  · intro h'
    by_cases hc : 128 ≤ c.toNat ∧ c.toNat ≤ 191
    · exact hc
    · exact absurd h' (h.mpr hc)
  · intro h'
    by_cases hc : bits .and .u8 (c.toNat : Int) 192 = 128
    · exact hc
    · exact absurd h' (h.mp hc)
theorem and31 {x : Int} (h0 : 0 ≤ x) (h1 : x < 256) : bits .and .i64 x 31 = x % 32 := i64_mask 5 x (by omega) h0 (by omega)
theorem and15 {x : Int} (h0 : 0 ≤ x) (h1 : x < 256) : bits .and .i64 x 15 = x % 16 := i64_mask 4 x (by omega) h0 (by omega)
theorem and7i {x : Int} (h0 : 0 ≤ x) (h1 : x < 256) : bits .and .i64 x 7 = x % 8 := i64_mask 3 x (by omega) h0 (by omega)
end Go.Proofs.YtdbpandamnkpdaaDoor
