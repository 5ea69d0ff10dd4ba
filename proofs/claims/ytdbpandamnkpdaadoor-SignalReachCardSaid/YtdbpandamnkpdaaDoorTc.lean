/-
  How a case comes in: bonds' calls, pids, deaths with their reasons; and how long these may be.
-/
import Derived.Test.YtdbpandamnkpdaaDoorSk
import Derived.Test.YtdbpandamnkpdaaDoorTb
set_option linter.unusedVariables false
set_option linter.unusedSimpArgs false
set_option maxRecDepth 100000
namespace Go.Proofs.YtdbpandamnkpdaaDoor
open Go Go.ChangeShapes Go.WideShapes Go.ChangeAt Go.RowKit Go.Lib

/-- Rows, with what each element's data says of it. -/
theorem open_rowsQ {H : Type} {encT : TypeId × Value → H} {P : Program} {W : World} {sp : Nat → Bool} {held : Bool} {α : Type} {enc : α → List Value} {k : Nat} {t e T : TypeId} {v : Value} {d : DataW H} {ps : List MemPlace} (Q : α → DataW H → Prop) (ht : P.underlying t = some (.slice e)) (hc : P.cellsOf e = k) (hk : 0 < k)
    (hE : ∀ a, (enc a).length = k) (hel : ∀ n cs x, DataW.trod encT P W 0 sp held n e cs = some x → ∃ a : α, cs = enc a ∧ Q a x.1) (hv1 : ∃ a len cap, v = .slice a len cap) (h : DataW.Trod encT P W 0 sp held t v d ps) :
    ∃ xs : List α, Els (fun w => w = W) v k enc T xs ∧ (∃ a cap, v = .slice a xs.length cap ∧ xs.length ≤ cap) ∧ (xs = [] ∨ ∃ el spr, d = .slice el spr ∧ el.length = xs.length ∧ ∀ (j : Nat) (x : α), xs[j]? = some x → ∃ dj, dj ∈ el ∧ Q x dj) := by
  obtain ⟨a1, len1, cap1, rfl⟩ := hv1
  obtain ⟨fuel, hf⟩ := h
  rcases Go.Deep.open_slice ht hf with ⟨hcs, hx⟩ | ⟨a, len, cap, m, n, D, Pl, hcs, hb, hl, hm, hmm, hx, hall⟩
  · have : (Value.slice a1 len1 cap1) = .slice none 0 0 := by simpa [Value.cells] using hcs
    rw [this]
    exact ⟨[], Els.nil, ⟨none, 0, rfl, Nat.le_refl _⟩, .inl rfl⟩
  · have : (Value.slice a1 len1 cap1) = .slice (some a) len cap := by simpa [Value.cells] using hcs
    rw [this]
    have hle : len ≤ m := by rw [hmm]; split <;> omega
    have key : ∀ i, i < len → ∃ y : α, W.cells? 0 (a.add (i * P.cellsOf e)) (P.cellsOf e) = some (enc y) ∧ Q y (D i) := fun i hi => by
      obtain ⟨cs', h1, h2⟩ := hall i (by omega)
      obtain ⟨y, rfl, hq⟩ := hel n cs' _ h2
      exact ⟨y, h1, hq⟩
    have hlist : ∀ m, m ≤ len → ∃ xs : List α, xs.length = m ∧ ∀ j x, xs[j]? = some x → W.cells? 0 (a.add (j * P.cellsOf e)) (P.cellsOf e) = some (enc x) ∧ Q x (D j) := by
      intro m
      induction m with
      | zero => exact fun _ => ⟨[], rfl, fun j x hx => by simp at hx⟩
      | succ m ih =>
        intro hm'
        obtain ⟨xs, h1, h2⟩ := ih (by omega)
        obtain ⟨y, hy⟩ := key m (by omega)
        refine ⟨xs ++ [y], by simp [h1], fun j x hx => ?_⟩
        rcases Nat.lt_or_ge j m with hj | hj
        · rw [List.getElem?_append_left (by omega)] at hx; exact h2 j x hx
        · rw [List.getElem?_append_right (by omega), h1] at hx
          have : j = m := by
            have := (List.getElem?_eq_some_iff.1 hx).1
            simp at this; omega
          subst this
          simp at hx
          rw [← hx]; exact hy
    obtain ⟨xs, hxl, hxs⟩ := hlist len (Nat.le_refl _)
    have hdd : d = .slice ((List.range len).map D) ((List.range (m - len)).map fun j => D (len + j)) := (Prod.mk.injEq _ _ _ _ ▸ hx).1
    refine ⟨xs, ⟨⟨some a, cap, by rw [hxl]⟩, fun j x hj => ?_⟩, ⟨some a, cap, by rw [hxl], by omega⟩, .inr ⟨_, _, hdd, by simp [hxl], fun j x hj => ⟨D j, ?_, (hxs j x hj).2⟩⟩⟩
    · have h1 := (hxs j x hj).1
      have hjl : j < len := by rw [← hxl]; exact (List.getElem?_eq_some_iff.1 hj).1
      obtain ⟨_, _, h2⟩ := World.cells?_some h1
      rw [hc] at h1 h2
      obtain ⟨b, off, s⟩ := a
      have hadd0 : ∀ z : Addr, z.add 0 = z := fun z => by cases z; simp [Addr.add]
      have hsn : s = none := by
        obtain ⟨y, hy, _⟩ := key 0 (by omega)
        obtain ⟨_, _, h3⟩ := World.cells?_some hy
        rw [hc] at h3
        have h4 := h3 0 hk
        rw [Nat.zero_mul, hadd0, hadd0, List.getElem?_eq_getElem (by rw [hE]; exact hk)] at h4
        exact (cell_some h4).1
      have hfirst := h2 0 hk
      rw [hadd0, List.getElem?_eq_getElem (by rw [hE]; exact hk)] at hfirst
      subst hsn
      rw [addr_add] at hfirst h2
      obtain ⟨_, l, T', fz, hb', _⟩ := cell_some hfirst
      refine ⟨b, off, len, cap, l, T', fz, rfl, hjl, fun w hw => by rw [hw]; exact hb', cellsAt_of fun i hi => ?_⟩
      have hi' : i < k := by rw [hE] at hi; exact hi
      have h3 := h2 i hi'
      rw [addr_add] at h3
      have h4 : (enc x)[i]? = some ((enc x)[i]) := List.getElem?_eq_getElem hi
      rw [h4] at h3
      obtain ⟨_, l', T2, fz2, hb2, hl2⟩ := cell_some h3
      rw [hb'] at hb2
      simp only [Option.some.injEq, Obj.cells.injEq] at hb2
      have : l = l' := by simpa using hb2.1
      rw [this, hl2, h4]
    · have hjl : j < len := by rw [← hxl]; exact (List.getElem?_eq_some_iff.1 hj).1
      exact List.mem_map.2 ⟨j, List.mem_range.2 hjl, rfl⟩

/-- All that data weighs, held. -/
def LightW {H : Type} (t : TypeId) (d : DataW H) : Prop := ∀ n ∈ d.weights Tryd.prog t, n ≤ reachBytes
theorem light_slice {H : Type} {t e : TypeId} {el spr : List (DataW H)} (ht : Tryd.prog.underlying t = some (.slice e)) (h : LightW t (DataW.slice el spr)) : (el.length + spr.length) * Tryd.prog.bytesOf e ≤ reachBytes ∧ ∀ d ∈ el, LightW e d := by
  refine ⟨h _ (by simp [DataW.weights, ht]), fun d hd n hn => h n ?_⟩
  have hm : ∀ {l : List (DataW H)}, d ∈ l → n ∈ DataW.weightsAll Tryd.prog e l := by
    intro l hl
    induction l with
    | nil => simp at hl
    | cons a l ih =>
      simp only [DataW.weightsAll, List.mem_append]
      rcases List.mem_cons.1 hl with rfl | hl
      · exact .inl hn
      · exact .inr (ih hl)
  simp only [DataW.weights, ht, List.mem_cons, List.mem_append]
  exact .inr (.inl (hm hd))
theorem light_agg {H : Type} {t : TypeId} {fs : Array Field} {parts : List (DataW H)} (ht : Tryd.prog.underlying t = some (.struct fs)) (h : LightW t (DataW.agg parts)) {i : Nat} {f : Field} {d : DataW H} (hf : fs[i]? = some f) (hd : parts[i]? = some d) : LightW f.type d := by
  intro n hn
  refine h n ?_
  simp only [DataW.weights, ht]
  exact DataW.weights_mem_each (j := i) (by simp [hf]) hd n hn

section
variable {H : Type} {enc : TypeId × Value → H} {W : World} {sp : Nat → Bool} {held : Bool} {n : Nat} {cs : List Value} {x : DataW H × List MemPlace}
theorem one35 : Tryd.prog.cellsOf 35 = 1 := by kernel_rfl
theorem one22 : Tryd.prog.cellsOf 22 = 1 := by kernel_rfl
theorem one34 : Tryd.prog.cellsOf 34 = 1 := by kernel_rfl
theorem one36 : Tryd.prog.cellsOf 36 = 1 := by kernel_rfl
theorem two48 : Tryd.prog.cellsOf 48 = 2 := by kernel_rfl
theorem four82 : Tryd.prog.cellsOf 82 = 4 := by kernel_rfl
theorem bytes2 : Tryd.prog.bytesOf 2 = 8 := by kernel_rfl
theorem bytes48 : Tryd.prog.bytesOf 48 = 32 := by kernel_rfl
theorem bytes82 : Tryd.prog.bytesOf 82 = 32 := by kernel_rfl
theorem trod_val {t : TypeId} {a : Option Addr} {l k : Nat} (h : DataW.trod enc Tryd.prog W 0 sp held n t [.slice a l k] = some x) : DataW.Trod enc Tryd.prog W 0 sp held t (.slice a l k) x.1 x.2 := ⟨n, by simpa [Value.cells] using h⟩
theorem term_in {a : Option Addr} {l k : Nat} (h : DataW.trod enc Tryd.prog W 0 sp held n 22 [.slice a l k] = some x) (hl : LightW 22 x.1) : ∃ xs : List Cl, Els (fun w => w = W) (.slice a l k) 3 Cl.enc 57 xs ∧ xs.length ≤ 4398046511000 := by
  obtain ⟨xs, he, hlen⟩ := open_rows (T := 57) (enc := Cl.enc) Tryd.underlying22 three57 (by decide) (fun _ => rfl) (fun n cs x h => cl_cells h) ⟨a, l, k, rfl⟩ (trod_val h)
  refine ⟨xs, he, ?_⟩
  rcases hlen with rfl | ⟨el, spr, hd, hl2⟩
  · simp
  · rw [hd] at hl
    have := (light_slice Tryd.underlying22 hl).1
    rw [bytes57] at this
    unfold reachBytes at this
    omega
theorem int_cells (h : DataW.trod enc Tryd.prog W 0 sp held n 2 cs = some x) : ∃ k : Int, cs = one (Value.int .i64) k := by
  obtain ⟨k0, e0, _, _⟩ := DataW.trod_int Tryd.underlying2 h
  exact ⟨k0, e0⟩
theorem pids_in {a : Option Addr} {l k : Nat} (h : DataW.trod enc Tryd.prog W 0 sp held n 35 [.slice a l k] = some x) (hl : LightW 35 x.1) : ∃ xs : List Int, Els (fun w => w = W) (.slice a l k) 1 (one (Value.int .i64)) 2 xs ∧ xs.length ≤ 17592186044416 := by
  obtain ⟨xs, he, hlen⟩ := open_rows (T := 2) (enc := one (Value.int .i64)) Tryd.underlying35 one2 (by decide) (fun _ => rfl) (fun n cs x h => int_cells h) ⟨a, l, k, rfl⟩ (trod_val h)
  refine ⟨xs, he, ?_⟩
  rcases hlen with rfl | ⟨el, spr, hd, hl2⟩
  · simp
  · rw [hd] at hl
    have := (light_slice Tryd.underlying35 hl).1
    rw [bytes2] at this
    unfold reachBytes at this
    omega
theorem op_cells (h : DataW.trod enc Tryd.prog W 0 sp held n 82 cs = some x) : ∃ o : LOp, cs = o.enc := by
  obtain ⟨hl, hf⟩ := trod_cells Tryd.underlying82 h
  rw [four82] at hl
  match cs, hl with
  | [c0, c1, c2, c3], _ =>
    obtain ⟨n0, y0, t0⟩ := hf 0 _ rfl
    obtain ⟨n1, y1, t1⟩ := hf 1 _ rfl
    obtain ⟨n2, y2, t2⟩ := hf 2 _ rfl
    obtain ⟨n3, y3, t3⟩ := hf 3 _ rfl
    obtain ⟨k0, e0, _, _⟩ := DataW.trod_int Tryd.underlying3 t0
    obtain ⟨k1, e1, _, _⟩ := DataW.trod_int Tryd.underlying2 t1
    obtain ⟨k2, e2, _, _⟩ := DataW.trod_int Tryd.underlying2 t2
    obtain ⟨k3, e3, _, _⟩ := DataW.trod_int Tryd.underlying2 t3
    simp [one3, one2] at e0 e1 e2 e3
    exact ⟨⟨k0, k1, k2, k3⟩, by rw [e0, e1, e2, e3]; rfl⟩
theorem ops_in {a : Option Addr} {l k : Nat} (h : DataW.trod enc Tryd.prog W 0 sp held n 34 [.slice a l k] = some x) (hl : LightW 34 x.1) : ∃ xs : List LOp, Els (fun w => w = W) (.slice a l k) 4 LOp.enc 82 xs ∧ xs.length ≤ 4398046511000 := by
  obtain ⟨xs, he, hlen⟩ := open_rows (T := 82) (enc := LOp.enc) Tryd.underlying34 four82 (by decide) (fun _ => rfl) (fun n cs x h => op_cells h) ⟨a, l, k, rfl⟩ (trod_val h)
  refine ⟨xs, he, ?_⟩
  rcases hlen with rfl | ⟨el, spr, hd, hl2⟩
  · simp
  · rw [hd] at hl
    have := (light_slice Tryd.underlying34 hl).1
    rw [bytes82] at this
    unfold reachBytes at this
    omega
/-- What a death's data says. -/
def DthQ (W : World) (y : Dv) (D : DataW H) : Prop := LightW 48 D → ∃ ys : List Cl, Els (fun w => w = W) y.sl 3 Cl.enc 57 ys ∧ ys.length ≤ 4398046511000
theorem dth_cells (h : DataW.trod enc Tryd.prog W 0 sp held n 48 cs = some x) : ∃ y : Dv, cs = y.enc ∧ DthQ W y x.1 := by
  obtain ⟨xs, m, _, hx, hl, hlen, hf⟩ := DataW.trod_struct Tryd.underlying48 h
  rw [two48] at hl
  match cs, hl with
  | [c0, c1], _ =>
    match xs, hlen with
    | [x0, x1], _ =>
      have f0 : DataW.trod enc Tryd.prog W 0 sp held m 2 ((([c0, c1] : List Value).drop 0).take (Tryd.prog.cellsOf 2)) = ([x0, x1] : List (DataW H × List MemPlace))[0]? := hf 0 _ rfl
      have f1 : DataW.trod enc Tryd.prog W 0 sp held m 22 ((([c0, c1] : List Value).drop 1).take (Tryd.prog.cellsOf 22)) = ([x0, x1] : List (DataW H × List MemPlace))[1]? := hf 1 _ rfl
      rw [one2] at f0
      rw [one22] at f1
      simp only [List.drop_zero, List.drop_succ_cons, List.take_succ_cons, List.take_zero, List.getElem?_cons_zero, List.getElem?_cons_succ] at f0 f1
      obtain ⟨k0, e0, _, _⟩ := DataW.trod_int Tryd.underlying2 f0
      obtain ⟨a, l, k, rfl⟩ := slice_cells Tryd.underlying22 f1
      simp only [List.cons.injEq, and_true] at e0
      refine ⟨⟨k0, a, l, k⟩, by rw [e0]; rfl, fun hw => ?_⟩
      rw [hx] at hw
      exact term_in f1 (light_agg Tryd.underlying48 hw (i := 1) rfl rfl)
theorem list_choose {α β : Type} {R : α → β → Prop} : ∀ {l : List α}, (∀ (j : Nat) (x : α), l[j]? = some x → ∃ y, R x y) → ∃ m : List β, l.length = m.length ∧ ∀ (i : Nat) (x : α) (y : β), l[i]? = some x → m[i]? = some y → R x y
  | [], _ => ⟨[], rfl, fun i x y h => by simp at h⟩
  | a :: l, h => by
    obtain ⟨b, hb⟩ := h 0 a rfl
    obtain ⟨m, hm, hr⟩ := list_choose (l := l) fun j x hx => h (j + 1) x hx
    refine ⟨b :: m, by simp [hm], fun i x y hx hy => ?_⟩
    cases i with
    | zero =>
      simp only [List.getElem?_cons_zero, Option.some.injEq] at hx hy
      rw [← hx, ← hy]; exact hb
    | succ i => exact hr i x y hx hy
theorem Fst.of {W : World} {v : Value} {dvs : List Dv} {ds : List Dth} (he : Els (fun w => w = W) v 2 Dv.enc 48 dvs) (hc : ∃ a cap, v = .slice a dvs.length cap ∧ dvs.length ≤ cap) (hr : Rel (fun w => w = W) dvs ds) : Fst (fun w => w = W) v dvs ds := by
  obtain ⟨a, cap, rfl, hcap⟩ := hc
  refine ⟨a, cap, rfl, hcap, fun h0 q hq => ?_, he, hr⟩
  obtain ⟨x, hx⟩ : ∃ x, dvs[0]? = some x := ⟨_, List.getElem?_eq_getElem h0⟩
  obtain ⟨b, off, len, cap', l, T', fz, e, _⟩ := he.2 0 x hx
  simp only [Value.slice.injEq] at e
  rw [hq] at e
  simp only [Option.some.injEq] at e
  rw [e.1]
theorem dths_in {a : Option Addr} {l k : Nat} (h : DataW.trod enc Tryd.prog W 0 sp held n 36 [.slice a l k] = some x) (hl : LightW 36 x.1) :
    ∃ (dvs : List Dv) (ds : List Dth), Fst (fun w => w = W) (.slice a l k) dvs ds ∧ dvs.length ≤ 4398046511000 ∧ ∀ d ∈ ds, d.2.length ≤ 4398046511000 := by
  obtain ⟨dvs, he, hcap, hlen⟩ := open_rowsQ (T := 48) (enc := Dv.enc) (DthQ W) Tryd.underlying36 two48 (by decide) (fun _ => rfl) (fun n cs x h => dth_cells h) ⟨a, l, k, rfl⟩ (trod_val h)
  rcases hlen with rfl | ⟨el, spr, hd, hl2, hq⟩
  · exact ⟨[], [], Fst.of he hcap Rel.nil, by simp, by simp⟩
  · rw [hd] at hl
    have hls := light_slice Tryd.underlying36 hl
    obtain ⟨ds, hds, hr⟩ := list_choose (l := dvs) (β := Dth) (R := fun y d => y.p = d.1 ∧ Els (fun w => w = W) y.sl 3 Cl.enc 57 d.2 ∧ d.2.length ≤ 4398046511000) fun j y hy => by
      obtain ⟨dj, hm, hQ⟩ := hq j y hy
      obtain ⟨ys, h1, h2⟩ := hQ (hls.2 dj hm)
      exact ⟨(y.p, ys), rfl, h1, h2⟩
    refine ⟨dvs, ds, Fst.of he hcap ⟨hds, fun i y d hy hd => ⟨(hr i y d hy hd).1, (hr i y d hy hd).2.1⟩⟩, ?_, fun d hd => ?_⟩
    · have := hls.1
      rw [bytes48] at this
      unfold reachBytes at this
      omega
    · obtain ⟨i, hi⟩ := List.getElem?_of_mem hd
      have hlt := (List.getElem?_eq_some_iff.1 hi).1
      exact (hr i _ d (List.getElem?_eq_getElem (by omega)) hi).2.2
end
/-- A case as it comes in. -/
theorem open_case {H : Type} {enc : TypeId × Value → H} {W : World} {sp : Nat → Bool} {held : Bool} {r : Go.Reach} {b0 : Nat} {v : Value} {d : DataW H} {ps : List MemPlace} {ts : List TypeId} {dd : List (DataW H)} {j : Nat}
    (hval : Value.okWide Tryd.prog W r b0 38 v) (hd : DataW.Trod enc Tryd.prog W 0 sp held 38 v d ps) (hsz : (DataW.weightsEach Tryd.prog ts dd).all (· ≤ reachBytes) = true) (ht : ts[j]? = some 38) (hj : dd[j]? = some d) :
    ∃ (vb vl vt vf : Value) (ops : List LOp) (live traps : List Int) (dvs : List Dv) (ds : List Dth), v = .agg #[vb, vl, vt, vf] ∧ Els (fun w => w = W) vb 4 LOp.enc 82 ops ∧ Els (fun w => w = W) vl 1 (one (Value.int .i64)) 2 live ∧ Els (fun w => w = W) vt 1 (one (Value.int .i64)) 2 traps ∧
      Fst (fun w => w = W) vf dvs ds ∧ ops.length ≤ 4398046511000 ∧ live.length ≤ 17592186044416 ∧ traps.length ≤ 17592186044416 ∧ dvs.length ≤ 4398046511000 ∧ ∀ d ∈ ds, d.2.length ≤ 4398046511000 := by
  have hw : LightW 38 d := fun n hn => by simpa using List.all_eq_true.1 hsz _ (DataW.weights_mem_each ht hj n hn)
  obtain ⟨cs, rfl, hcs⟩ := okWide_struct Tryd.underlying38 hval
  rw [four38] at hcs
  obtain ⟨c0, c1, c2, c3, rfl⟩ := arr4 hcs
  obtain ⟨fuel, hf0⟩ := hd
  obtain ⟨xs, m, _, hx, hl, hlen, hf⟩ := DataW.trod_struct Tryd.underlying38 hf0
  match xs, hlen with
  | [x0, x1, x2, x3], _ =>
    have f0 : DataW.trod enc Tryd.prog W 0 sp held m 34 ((([c0, c1, c2, c3] : List Value).drop 0).take (Tryd.prog.cellsOf 34)) = ([x0, x1, x2, x3] : List (DataW H × List MemPlace))[0]? := hf 0 _ rfl
    have f1 : DataW.trod enc Tryd.prog W 0 sp held m 35 ((([c0, c1, c2, c3] : List Value).drop 1).take (Tryd.prog.cellsOf 35)) = ([x0, x1, x2, x3] : List (DataW H × List MemPlace))[1]? := hf 1 _ rfl
    have f2 : DataW.trod enc Tryd.prog W 0 sp held m 35 ((([c0, c1, c2, c3] : List Value).drop 2).take (Tryd.prog.cellsOf 35)) = ([x0, x1, x2, x3] : List (DataW H × List MemPlace))[2]? := hf 2 _ rfl
    have f3 : DataW.trod enc Tryd.prog W 0 sp held m 36 ((([c0, c1, c2, c3] : List Value).drop 3).take (Tryd.prog.cellsOf 36)) = ([x0, x1, x2, x3] : List (DataW H × List MemPlace))[3]? := hf 3 _ rfl
    rw [one34] at f0
    rw [one35] at f1 f2
    rw [one36] at f3
    simp only [List.drop_zero, List.drop_succ_cons, List.take_succ_cons, List.take_zero, List.getElem?_cons_zero, List.getElem?_cons_succ] at f0 f1 f2 f3
    obtain ⟨a0, l0, k0, rfl⟩ := slice_cells Tryd.underlying34 f0
    obtain ⟨a1, l1, k1, rfl⟩ := slice_cells Tryd.underlying35 f1
    obtain ⟨a2, l2, k2, rfl⟩ := slice_cells Tryd.underlying35 f2
    obtain ⟨a3, l3, k3, rfl⟩ := slice_cells Tryd.underlying36 f3
    have hdd : d = .agg [x0.1, x1.1, x2.1, x3.1] := (Prod.mk.injEq _ _ _ _ ▸ hx).1
    rw [hdd] at hw
    obtain ⟨ops, e0, z0⟩ := ops_in f0 (light_agg Tryd.underlying38 hw (i := 0) rfl rfl)
    obtain ⟨live, e1, z1⟩ := pids_in f1 (light_agg Tryd.underlying38 hw (i := 1) rfl rfl)
    obtain ⟨traps, e2, z2⟩ := pids_in f2 (light_agg Tryd.underlying38 hw (i := 2) rfl rfl)
    obtain ⟨dvs, ds, e3, z3, z4⟩ := dths_in f3 (light_agg Tryd.underlying38 hw (i := 3) rfl rfl)
    exact ⟨_, _, _, _, ops, live, traps, dvs, ds, rfl, e0, e1, e2, e3, z0, z1, z2, z3, z4⟩
end Go.Proofs.YtdbpandamnkpdaaDoor
