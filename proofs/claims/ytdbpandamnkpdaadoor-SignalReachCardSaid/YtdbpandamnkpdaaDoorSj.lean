/-
  The law's example; the walks of SignalSends and SignalNil.
-/
import Derived.Test.YtdbpandamnkpdaaDoorSi
set_option linter.unusedSimpArgs false
set_option linter.unusedVariables false
set_option maxRecDepth 100000
namespace Go.Proofs.YtdbpandamnkpdaaDoor
open Go Go.RowKit Go.Lib

def boomS : Str := [98, 111, 111, 109]
theorem two_of {α : Type} {l : List α} (h : l.length = 2) : ∃ a b, l = [a, b] := by
  match l, h with
  | [a, b], _ => exact ⟨a, b, rfl⟩
theorem one_of2 {α : Type} {l : List α} (h : l.length = 1) : ∃ a, l = [a] := List.length_eq_one_iff.1 h
theorem spN_stay {traps : List Int} {s : Sp × List Bond} {K : Nat} (h : (spN traps s K).1.ds.length = K) : ∀ j, spN traps s (K + j) = spN traps s K
  | 0 => rfl
  | j + 1 => by
    show kstep traps (spN traps s (K + j)) (K + j) = _
    rw [spN_stay h j]
    unfold kstep
    rw [List.getElem?_eq_none (by omega)]
/-- There is one end. -/
theorem spN_one {traps : List Int} {s : Sp × List Bond} {K K' : Nat} (h : (spN traps s K).1.ds.length = K) (h' : (spN traps s K').1.ds.length = K') : spN traps s K = spN traps s K' := by
  rcases Nat.le_total K K' with hl | hl
  · rw [← spN_stay h (K' - K), show K + (K' - K) = K' from by omega]
  · rw [← spN_stay h' (K - K'), show K' + (K - K') = K from by omega]
theorem aw_spread {s : Sp × List Bond} (h : ∃ K, s = spN [3] (sp0 [1, 2, 3] [(1, [atomC boomS])], [⟨1, 2, 0⟩, ⟨2, 3, 0⟩]) K ∧ s.1.ds.length = K) :
    spN [3] (sp0 [1, 2, 3] [(1, [atomC boomS])], [⟨1, 2, 0⟩, ⟨2, 3, 0⟩]) 2 = s := by
  obtain ⟨K, rfl, hK⟩ := h
  exact (spN_one hK (K' := 2) (by decide)).symm
theorem rIs_yes {w0 w : World} {R : List Chunk} {v : Value} (he : Els (fun w => St w0 w R) v 3 Cl.enc 57 [atomC killedS]) (hst : St w0 w R) : Calls Tryd.prog 20 #[v, sv killedS] w (Post0 w0 R fun u => u = .bool true) := by
  have := rIs_spec he killedS hst
  rwa [show isA [atomC killedS] killedS = true by decide] at this
theorem msg_len {h xs : List Cl} (hx : xs.length ≤ 1024) : (msg h xs).length ≤ h.length + 1024 := by
  unfold msg
  split <;> simp <;> omega
theorem exitM_len {p : Int} {xs : List Cl} : (exitM p xs).1.length ≤ 1100 := by
  unfold exitM
  split
  · simp
  · split
    · simp
    · rename_i h
      have := msg_len (h := [⟨5, 3, []⟩, atomC exitS, ⟨4, p, []⟩]) (right_len (xs := xs) (by omega))
      simp only [List.length_cons, List.length_nil] at this
      simp only
      omega
theorem downM_len {r p : Int} {xs : List Cl} : (downM r p xs).1.length ≤ 1100 := by
  unfold downM
  split
  · simp
  · split
    · simp
    · rename_i h
      have := msg_len (h := [⟨5, 5, []⟩, atomC downS, ⟨3, r, []⟩, atomC processS, ⟨4, p, []⟩]) (right_len (xs := xs) (by omega))
      simp only [List.length_cons, List.length_nil] at this
      simp only
      omega
theorem sendM_len {f t : Int} {xs : List Cl} {trap : Bool} : (sendM f t xs trap).2.1.length ≤ 1100 := by
  unfold sendM
  split
  · simp
  · split
    · simp
    · rename_i h
      have := right_len (xs := xs) (by omega)
      split
      · simp
      · split
        · exact exitM_len
        · split
          · simp
          · simp only; omega

theorem awake_spec {w0 w : World} {R : List Chunk} (hT : Tabs w0) (hst : St w0 w R) : Calls Tryd.prog 17 #[] w (Post0 w0 R fun u => u = .bool true) := by
  refine calls_of (args := []) Tryd.func17 rfl Tryd.ntmps17 hst ?_
  refine TC.seq ?_
  refine TC.region ?_
  refine TL.p (EvP.assign rfl) ?_
  refine TL.nil ?_
  refine TX.thenN rfl rfl ?_
  refine TC.seq ?_
  refine TC.region ?_
  refine TL.callB rfl rfl Tryd.call36 (fun w hs => new_spec hs) ?_
  rintro _ C0 ⟨g, rfl, hG0⟩
  refine TL.p (EvP.assign rfl) ?_
  refine TL.nil ?_
  refine TX.thenN rfl rfl ?_
  refine TC.seq ?_
  refine TC.seq ?_
  refine TC.region ?_
  refine TL.p (EvP.move rfl) ?_
  refine TL.p (EvP.eqPtrNil Tryd.runUnderlying43 rfl rfl) ?_
  refine TL.p (EvP.move rfl) ?_
  refine TL.gY rfl rfl rfl ?_
  refine TL.p (EvP.move rfl) ?_
  refine TL.gY rfl rfl rfl ?_
  refine TL.callB rfl rfl Tryd.call37 (fun w hs => g_link hG0 (by omega) 1 2 hs) ?_
  rintro _ C1 ⟨rfl, hG1⟩
  refine TL.gY rfl rfl rfl ?_
  refine TL.p (EvP.isF (EvP.ne rfl rfl) (by decide)) ?_
  refine TL.p (EvP.pickF rfl rfl) ?_
  refine TL.p (EvP.move rfl) ?_
  refine TL.gY rfl rfl rfl ?_
  refine TL.p (EvP.move rfl) ?_
  refine TL.gY rfl rfl rfl ?_
  refine TL.callB rfl rfl Tryd.call37 (fun w hs => g_link hG1 (by omega) 2 3 hs) ?_
  rintro _ C2 ⟨rfl, hG2⟩
  refine TL.gY rfl rfl rfl ?_
  refine TL.p (EvP.isF (EvP.ne rfl rfl) (by decide)) ?_
  refine TL.p (EvP.pickF rfl rfl) ?_
  refine TL.nil ?_
  refine TX.thenN rfl rfl ?_
  refine TC.cfalse rfl ?_
  refine TC.skip ?_
  refine TX.thenN rfl rfl ?_
  refine TC.seq ?_
  refine TC.region ?_
  refine TL.p (EvP.move rfl) ?_
  refine TL.litn (enc := one (Value.int .i64)) (xs := [1, 2, 3]) (os := [.const (.int .i64 1), .const (.int .i64 2), .const (.int .i64 3)]) rfl elI Tryd.underlying35 (by decide) rfl rfl (by intro v hv; simp only [List.mem_cons, List.not_mem_nil, or_false] at hv; rcases hv with rfl | rfl | rfl <;> rfl) rfl (by decide) (fun u3 D3 hD3 => ?_)
  refine TL.lit1 (3 : Int) rfl elI Tryd.underlying35 (by decide) (by decide) encI_ok rfl (fun u4 D4 hD4 => ?_)
  refine TL.callB rfl rfl Tryd.call24 (fun w hs => latom_spec boomS hs) ?_
  rintro _ D5 hD5
  obtain ⟨a5, c5, rfl, _, _⟩ := id hD5.len
  refine TL.p (EvP.buildS (is := [0, 1]) (xs := [_, _]) rfl Tryd.runUnderlying48 Tryd.zeroValue48 rfl (.cons Tryd.sizeOf2 (.cons Tryd.sizeOf22 .nil)) rfl rfl rfl) ?_
  refine TL.lit1 (⟨1, a5, 1, c5⟩ : Dv) rfl elDe Tryd.underlying36 (by decide) (by decide) encD_ok rfl (fun u6 D6 hD6 => ?_)
  obtain ⟨a6, c6, hu6, hc6, hsp6⟩ := hD6.len
  subst hu6
  refine TL.le (Le.hit4 (Le.refl _)) ?_
  have hbs : (lnk (lnk [] 1 2).2 2 3).2 = [⟨1, 2, 0⟩, ⟨2, 3, 0⟩] := by decide
  rw [hbs] at hG2
  refine TL.call rfl rfl Tryd.call18 (fun w hs => spread_ok (live := [1, 2, 3]) (traps := [3]) (dvs := [⟨1, a5, 1, c5⟩]) (ds := [(1, [atomC boomS])]) hT hG2 (hD3.els encI_ok (by simp)) (hD4.els encI_ok (by simp)) ⟨a6, c6, rfl, hc6, fun _ => hsp6, hD6.els encD_ok (by simp), Rel.nil.snoc rfl (hD5.els encC_ok (by simp))⟩ (by simp) (by simp) (by simp) (by simp) (by decide) hs) ?_
  rintro _ _ ⟨Cg, D8, E8, Dt, Et, dv, tv, dvs2, tvs2, s, rfl, rfl, hK, _, _, hdv, hdr, htv, htr⟩
  obtain rfl := aw_spread hK
  obtain ⟨d1, d2, rfl⟩ := two_of (show dvs2.length = 2 from hdr.1)
  obtain ⟨t1, rfl⟩ := one_of2 (show tvs2.length = 1 from htr.1)
  have hp2 : d2.p = 2 := (hdr.2 1 d2 _ rfl rfl).1
  have hp3 : t1.p = 3 := (htr.2 0 t1 _ rfl rfl).1
  obtain ⟨a8, c8, rfl, _, _⟩ := id hdv.len
  obtain ⟨a9, c9, rfl, _, _⟩ := id htv.len
  refine TL.p (EvP.move rfl) ?_
  refine TL.p (EvP.extract rfl rfl) ?_
  refine TL.p (EvP.extract rfl rfl) ?_
  refine TL.p (EvP.extract rfl rfl) ?_
  refine TL.p (EvP.assign rfl) ?_
  refine TL.p (EvP.assign rfl) ?_
  refine TL.p (EvP.assign rfl) ?_
  refine TL.nil ?_
  refine TX.thenN rfl rfl ?_
  refine TC.seq ?_
  refine TC.region ?_
  refine TL.callB rfl rfl Tryd.call24 (fun w hs => latom_spec killS hs) ?_
  rintro _ D7 hD7
  refine TL.callB rfl rfl Tryd.call8 (fun w hs => send_spec hT 1 2 true (hD7.els encC_ok (by simp)) (by simp) hs) ?_
  rintro _ CS ⟨mS, rfl, hS⟩
  have hsm : sendM 1 2 [atomC killS] true = (1, [atomC killedS], 0) := by decide
  rw [hsm] at hS ⊢
  refine TL.p (EvP.move rfl) ?_
  refine TL.p (EvP.extract rfl rfl) ?_
  refine TL.p (EvP.extract rfl rfl) ?_
  refine TL.p (EvP.extract rfl rfl) ?_
  refine TL.p (EvP.assign rfl) ?_
  refine TL.p (EvP.assign rfl) ?_
  refine TL.p (EvP.assign rfl) ?_
  refine TL.nil ?_
  refine TX.thenN rfl rfl ?_
  refine TC.seq ?_
  refine TC.region ?_
  refine TL.p (EvP.move rfl) ?_
  refine TL.p (EvP.isT (EvP.eq rfl rfl) rfl) ?_
  refine TL.p (EvP.move rfl) ?_
  refine TL.gY rfl rfl rfl ?_
  refine TL.p (EvP.move rfl) ?_
  refine TL.gY rfl rfl rfl ?_
  refine TL.p (EvP.lenS Tryd.runUnderlying36 rfl) ?_
  refine TL.gY rfl rfl rfl ?_
  refine TL.p (EvP.isT (EvP.eq rfl rfl) rfl) ?_
  refine TL.p (EvP.pickT rfl rfl) ?_
  refine TL.p (EvP.move rfl) ?_
  refine TL.gY rfl rfl rfl ?_
  refine TL.p (EvP.move rfl) ?_
  refine TL.gY rfl rfl rfl ?_
  refine TL.elem (hdv.el encD_ok (x := d2) rfl (by simp)) Tryd.runUnderlying36 Tryd.sizeOf48 rfl rfl (fun bE oE lE _ _ hE hcE => ?_)
  refine TL.gY rfl rfl rfl ?_
  refine TL.p (EvP.fa rfl Tryd.runUnderlying48 rfl Tryd.sizeOf2 rfl) ?_
  refine TL.gY rfl rfl rfl ?_
  refine TL.r (EvR.load rfl Tryd.isAgg2 hE hcE.1) ?_
  refine TL.gY rfl rfl rfl ?_
  refine TL.p (EvP.isT (EvP.eq rfl rfl) hp2) ?_
  refine TL.p (EvP.pickT rfl rfl) ?_
  refine TL.p (EvP.move rfl) ?_
  refine TL.gY rfl rfl rfl ?_
  refine TL.p (EvP.move rfl) ?_
  refine TL.gY rfl rfl rfl ?_
  refine TL.p (EvP.lenS Tryd.runUnderlying39 rfl) ?_
  refine TL.gY rfl rfl rfl ?_
  refine TL.p (EvP.isT (EvP.eq rfl rfl) rfl) ?_
  refine TL.p (EvP.pickT rfl rfl) ?_
  refine TL.p (EvP.move rfl) ?_
  refine TL.gY rfl rfl rfl ?_
  refine TL.p (EvP.move rfl) ?_
  refine TL.gY rfl rfl rfl ?_
  refine TL.elem (htv.el encD_ok (x := t1) rfl (by simp)) Tryd.runUnderlying39 Tryd.sizeOf67 rfl rfl (fun bE oE lE _ _ hE hcE => ?_)
  refine TL.gY rfl rfl rfl ?_
  refine TL.p (EvP.fa rfl Tryd.runUnderlying67 rfl Tryd.sizeOf2 rfl) ?_
  refine TL.gY rfl rfl rfl ?_
  refine TL.r (EvR.load rfl Tryd.isAgg2 hE hcE.1) ?_
  refine TL.gY rfl rfl rfl ?_
  refine TL.p (EvP.isT (EvP.eq rfl rfl) hp3) ?_
  refine TL.p (EvP.pickT rfl rfl) ?_
  refine TL.p (EvP.move rfl) ?_
  refine TL.gY rfl rfl rfl ?_
  refine TL.p (EvP.move rfl) ?_
  refine TL.gY rfl rfl rfl ?_
  refine TL.p (EvP.isT (EvP.eq rfl rfl) rfl) ?_
  refine TL.p (EvP.pickT rfl rfl) ?_
  refine TL.p (EvP.move rfl) ?_
  refine TL.gY rfl rfl rfl ?_
  refine TL.p (EvP.move rfl) ?_
  refine TL.gY rfl rfl rfl ?_
  refine TL.p (EvP.isT (EvP.eq rfl rfl) rfl) ?_
  refine TL.p (EvP.pickT rfl rfl) ?_
  refine TL.p (EvP.move rfl) ?_
  refine TL.gY rfl rfl rfl ?_
  refine TL.p (EvP.move rfl) ?_
  refine TL.gY rfl rfl rfl ?_
  refine TL.callA rfl rfl Tryd.call20 (fun w hs => rIs_yes (hS.els encC_ok (by simp)) hs) ?_
  rintro _ rfl
  refine TL.p (EvP.pickT rfl rfl) ?_
  refine TL.p (EvP.assign rfl) ?_
  refine TL.nil ?_
  refine TX.thenN rfl rfl ?_
  refine TC.ret ?_
  refine TX.done rfl (Res.one rfl rfl) (fun w hs => Post0.mk hs ?_ (by repeat (first | exact Le.refl _ | exact Le.nil _ | refine Le.hit ?_ | refine Le.hit1 ?_ | refine Le.hit2 ?_ | refine Le.hit3 ?_ | refine Le.hit4 ?_ | refine Le.hit5 ?_ | refine Le.hit6 ?_ | refine Le.hit7 ?_ | refine Le.hit8 ?_ | refine Le.hit9 ?_ | refine Le.hit10 ?_ | refine Le.skip ?_)))
  rfl

theorem sends_walk {w0 w : World} {R : List Chunk} {v : Value} {xs : List Cl} (hT : Tabs w0) (f t ref : Int) (trap : Bool) (he : Els (fun w => w = w0) v 3 Cl.enc 57 xs) (hsz : xs.length ≤ 4398046511000) (hst : St w0 w R) : Calls Tryd.prog 3 #[.int .i64 f, .int .i64 t, .int .i64 ref, v, .bool trap] w (Post0 w0 R fun u => u = .bool true) := by
  obtain ⟨⟨a0, c0, rfl⟩, _⟩ := id he
  refine calls_of (args := [_, _, _, _, _]) Tryd.func3 rfl Tryd.ntmps3 hst ?_
  refine TC.seq ?_
  refine TC.region ?_
  refine TL.p (EvP.assign rfl) ?_
  refine TL.nil ?_
  refine TX.thenN rfl rfl ?_
  refine TC.seq ?_
  refine TC.region ?_
  refine TL.p (EvP.move rfl) ?_
  refine TL.callB rfl rfl Tryd.call7 (fun w hs => lent_spec he.came hsz hs) ?_
  rintro _ CL hL
  obtain ⟨aL, cL, rfl, _, _, _⟩ := id hL
  refine TL.p (EvP.assign rfl) ?_
  refine TL.nil ?_
  refine TX.thenN rfl rfl ?_
  refine TC.seq ?_
  refine TC.region ?_
  refine TL.p (EvP.move rfl) ?_
  refine TL.p (EvP.move rfl) ?_
  refine TL.p (EvP.move rfl) ?_
  refine TL.p (EvP.move rfl) ?_
  refine TL.callB rfl rfl Tryd.call8 (fun w hs => send_spec hT f t trap (hL.els (by simp)) hsz hs) ?_
  rintro _ CS ⟨mS, rfl, hS⟩
  refine TL.p (EvP.move rfl) ?_
  refine TL.p (EvP.extract rfl rfl) ?_
  refine TL.p (EvP.extract rfl rfl) ?_
  refine TL.p (EvP.extract rfl rfl) ?_
  refine TL.p (EvP.assign rfl) ?_
  refine TL.p (EvP.assign rfl) ?_
  refine TL.p (EvP.assign rfl) ?_
  refine TL.nil ?_
  refine TX.thenN rfl rfl ?_
  refine TC.seq ?_
  refine TC.region ?_
  refine TL.p (EvP.move rfl) ?_
  refine TL.p (EvP.move rfl) ?_
  refine TL.p (EvP.move rfl) ?_
  refine TL.p (EvP.move rfl) ?_
  refine TL.callB rfl rfl Tryd.call9 (fun w hs => rsend_spec f t trap he.came hsz hs) ?_
  rintro _ CR ⟨mR, rfl, hR⟩
  refine TL.p (EvP.move rfl) ?_
  refine TL.p (EvP.extract rfl rfl) ?_
  refine TL.p (EvP.extract rfl rfl) ?_
  refine TL.p (EvP.extract rfl rfl) ?_
  refine TL.p (EvP.assign rfl) ?_
  refine TL.p (EvP.assign rfl) ?_
  refine TL.p (EvP.assign rfl) ?_
  refine TL.nil ?_
  refine TX.thenN rfl rfl ?_
  refine TC.seq ?_
  refine TC.seq ?_
  refine TC.region ?_
  refine TL.p (EvP.move rfl) ?_
  refine TL.p (EvP.move rfl) ?_
  refine TL.p (EvP.isF (EvP.ne rfl rfl) (by simp)) ?_
  refine TL.p (EvP.move rfl) ?_
  refine TL.gY rfl rfl rfl ?_
  refine TL.p (EvP.move rfl) ?_
  refine TL.gY rfl rfl rfl ?_
  refine TL.p (EvP.move rfl) ?_
  refine TL.gY rfl rfl rfl ?_
  refine TL.callA rfl rfl Tryd.call10 (fun w hs => same_spec (hS.els encC_ok (by simp)) hR (by have := sendM_len (f := f) (t := t) (xs := xs) (trap := trap); omega) hs) ?_
  rintro _ rfl
  refine TL.gY rfl rfl rfl ?_
  refine TL.p (EvP.not rfl) ?_
  refine TL.p (EvP.pickF rfl rfl) ?_
  refine TL.p (EvP.move rfl) ?_
  refine TL.gY rfl rfl rfl ?_
  refine TL.p (EvP.move rfl) ?_
  refine TL.gY rfl rfl rfl ?_
  refine TL.p (EvP.move rfl) ?_
  refine TL.gY rfl rfl rfl ?_
  refine TL.p (EvP.isF (EvP.ne rfl rfl) (by simp)) ?_
  refine TL.p (EvP.pickF rfl rfl) ?_
  refine TL.nil ?_
  refine TX.thenN rfl rfl ?_
  refine TC.cfalse rfl ?_
  refine TC.skip ?_
  refine TX.thenN rfl rfl ?_
  refine TC.seq ?_
  refine TC.region ?_
  refine TL.p (EvP.move rfl) ?_
  refine TL.le (Le.hit1 (Le.refl _)) ?_
  refine TL.callA rfl rfl Tryd.call11 (fun w hs => spoil_spec hS (by have := sendM_len (f := f) (t := t) (xs := xs) (trap := trap); omega) hs) ?_
  rintro _ rfl
  refine TL.nil ?_
  refine TX.thenN rfl rfl ?_
  refine TC.seq ?_
  refine TC.region ?_
  refine TL.p (EvP.move rfl) ?_
  refine TL.p (EvP.move rfl) ?_
  refine TL.callB rfl rfl Tryd.call12 (fun w hs => exit_spec hT f (hL.els (by simp)) hsz hs) ?_
  rintro _ CA ⟨mA, rfl, hA⟩
  refine TL.p (EvP.move rfl) ?_
  refine TL.p (EvP.extract rfl rfl) ?_
  refine TL.p (EvP.extract rfl rfl) ?_
  refine TL.p (EvP.assign rfl) ?_
  refine TL.p (EvP.assign rfl) ?_
  refine TL.nil ?_
  refine TX.thenN rfl rfl ?_
  refine TC.seq ?_
  refine TC.region ?_
  refine TL.p (EvP.move rfl) ?_
  refine TL.p (EvP.move rfl) ?_
  refine TL.callB rfl rfl Tryd.call13 (fun w hs => rexit_spec f he.came hsz hs) ?_
  rintro _ CB ⟨mB, rfl, hB⟩
  refine TL.p (EvP.move rfl) ?_
  refine TL.p (EvP.extract rfl rfl) ?_
  refine TL.p (EvP.extract rfl rfl) ?_
  refine TL.p (EvP.assign rfl) ?_
  refine TL.p (EvP.assign rfl) ?_
  refine TL.nil ?_
  refine TX.thenN rfl rfl ?_
  refine TC.seq ?_
  refine TC.seq ?_
  refine TC.region ?_
  refine TL.p (EvP.move rfl) ?_
  refine TL.p (EvP.move rfl) ?_
  refine TL.callA rfl rfl Tryd.call10 (fun w hs => same_spec (hA.els encC_ok (by simp)) (hB.els encC_ok (by simp)) (by have := exitM_len (p := f) (xs := xs); omega) hs) ?_
  rintro _ rfl
  refine TL.p (EvP.not rfl) ?_
  refine TL.p (EvP.move rfl) ?_
  refine TL.gY rfl rfl rfl ?_
  refine TL.p (EvP.move rfl) ?_
  refine TL.gY rfl rfl rfl ?_
  refine TL.p (EvP.move rfl) ?_
  refine TL.gY rfl rfl rfl ?_
  refine TL.p (EvP.isF (EvP.ne rfl rfl) (by simp)) ?_
  refine TL.p (EvP.pickF rfl rfl) ?_
  refine TL.nil ?_
  refine TX.thenN rfl rfl ?_
  refine TC.cfalse rfl ?_
  refine TC.skip ?_
  refine TX.thenN rfl rfl ?_
  refine TC.seq ?_
  refine TC.region ?_
  refine TL.p (EvP.move rfl) ?_
  refine TL.le (Le.hit1 (Le.refl _)) ?_
  refine TL.callA rfl rfl Tryd.call11 (fun w hs => spoil_spec hA (by have := exitM_len (p := f) (xs := xs); omega) hs) ?_
  rintro _ rfl
  refine TL.nil ?_
  refine TX.thenN rfl rfl ?_
  refine TC.seq ?_
  refine TC.region ?_
  refine TL.p (EvP.move rfl) ?_
  refine TL.p (EvP.move rfl) ?_
  refine TL.p (EvP.move rfl) ?_
  refine TL.callB rfl rfl Tryd.call14 (fun w hs => down_spec hT ref t (hL.els (by simp)) hsz hs) ?_
  rintro _ CX ⟨mX, rfl, hX⟩
  refine TL.p (EvP.move rfl) ?_
  refine TL.p (EvP.extract rfl rfl) ?_
  refine TL.p (EvP.extract rfl rfl) ?_
  refine TL.p (EvP.assign rfl) ?_
  refine TL.p (EvP.assign rfl) ?_
  refine TL.nil ?_
  refine TX.thenN rfl rfl ?_
  refine TC.seq ?_
  refine TC.region ?_
  refine TL.p (EvP.move rfl) ?_
  refine TL.p (EvP.move rfl) ?_
  refine TL.p (EvP.move rfl) ?_
  refine TL.callB rfl rfl Tryd.call15 (fun w hs => rdown_spec ref t he.came hsz hs) ?_
  rintro _ CY ⟨mY, rfl, hY⟩
  refine TL.p (EvP.move rfl) ?_
  refine TL.p (EvP.extract rfl rfl) ?_
  refine TL.p (EvP.extract rfl rfl) ?_
  refine TL.p (EvP.assign rfl) ?_
  refine TL.p (EvP.assign rfl) ?_
  refine TL.nil ?_
  refine TX.thenN rfl rfl ?_
  refine TC.seq ?_
  refine TC.seq ?_
  refine TC.region ?_
  refine TL.p (EvP.move rfl) ?_
  refine TL.p (EvP.move rfl) ?_
  refine TL.callA rfl rfl Tryd.call10 (fun w hs => same_spec (hX.els encC_ok (by simp)) (hY.els encC_ok (by simp)) (by have := downM_len (r := ref) (p := t) (xs := xs); omega) hs) ?_
  rintro _ rfl
  refine TL.p (EvP.not rfl) ?_
  refine TL.p (EvP.move rfl) ?_
  refine TL.gY rfl rfl rfl ?_
  refine TL.p (EvP.move rfl) ?_
  refine TL.gY rfl rfl rfl ?_
  refine TL.p (EvP.move rfl) ?_
  refine TL.gY rfl rfl rfl ?_
  refine TL.p (EvP.isF (EvP.ne rfl rfl) (by simp)) ?_
  refine TL.p (EvP.pickF rfl rfl) ?_
  refine TL.nil ?_
  refine TX.thenN rfl rfl ?_
  refine TC.cfalse rfl ?_
  refine TC.skip ?_
  refine TX.thenN rfl rfl ?_
  refine TC.seq ?_
  refine TC.region ?_
  refine TL.p (EvP.move rfl) ?_
  refine TL.le (Le.hit1 (Le.refl _)) ?_
  refine TL.callA rfl rfl Tryd.call11 (fun w hs => spoil_spec hX (by have := downM_len (r := ref) (p := t) (xs := xs); omega) hs) ?_
  rintro _ rfl
  refine TL.nil ?_
  refine TX.thenN rfl rfl ?_
  refine TC.seq ?_
  refine TC.region ?_
  refine TL.p (EvP.move rfl) ?_
  refine TL.p (EvP.move rfl) ?_
  refine TL.le (Le.hit3 (Le.refl _)) ?_
  refine TL.callA rfl rfl Tryd.call16 (fun w hs => kept_spec hL he.came hsz hs) ?_
  rintro _ rfl
  refine TL.p (EvP.move rfl) ?_
  refine TL.gY rfl rfl rfl ?_
  refine TL.callA rfl rfl Tryd.call17 (fun w hs => awake_spec hT hs) ?_
  rintro _ rfl
  refine TL.p (EvP.pickT rfl rfl) ?_
  refine TL.p (EvP.assign rfl) ?_
  refine TL.nil ?_
  refine TX.thenN rfl rfl ?_
  refine TC.ret ?_
  refine TX.done rfl (Res.one rfl rfl) (fun w hs => Post0.mk hs ?_ (by repeat (first | exact Le.refl _ | exact Le.nil _ | refine Le.hit ?_ | refine Le.hit1 ?_ | refine Le.hit2 ?_ | refine Le.hit3 ?_ | refine Le.hit4 ?_ | refine Le.hit5 ?_ | refine Le.hit6 ?_ | refine Le.hit7 ?_ | refine Le.hit8 ?_ | refine Le.hit9 ?_ | refine Le.hit10 ?_ | refine Le.skip ?_)))
  rfl

theorem nil_walk {w0 w : World} {R : List Chunk} {a1 a2 a3 a4 : Option Addr} {n1 n2 n3 n4 c1 c2 c3 c4 : Nat} (hT : Tabs w0) (hst : St w0 w R) : Calls Tryd.prog 4 #[.agg #[.slice a1 n1 c1, .slice a2 n2 c2, .slice a3 n3 c3, .slice a4 n4 c4]] w (Post0 w0 R fun u => u = .bool true) := by
  refine calls_of (args := [_]) Tryd.func4 rfl Tryd.ntmps4 hst ?_
  refine TC.seq ?_
  refine TC.region ?_
  refine TL.box rfl rfl (fun b1 => ?_)
  refine TL.p (EvP.assign rfl) ?_
  refine TL.nil ?_
  refine TX.thenN rfl rfl ?_
  refine TC.seq ?_
  refine TC.region ?_
  refine TL.p (EvP.fa (e := 1) rfl Tryd.runUnderlying38 rfl Tryd.sizeOf35 rfl) ?_
  refine TL.r (EvR.load rfl Tryd.isAgg35 (AtB.own (by repeat (first | exact Has.hd | refine Has.tlb ?_ | refine Has.tlc ?_))) (by rfl)) ?_
  refine TL.p (EvP.fa (e := 2) rfl Tryd.runUnderlying38 rfl Tryd.sizeOf35 rfl) ?_
  refine TL.r (EvR.load rfl Tryd.isAgg35 (AtB.own (by repeat (first | exact Has.hd | refine Has.tlb ?_ | refine Has.tlc ?_))) (by rfl)) ?_
  refine TL.p (EvP.fa (e := 3) rfl Tryd.runUnderlying38 rfl Tryd.sizeOf36 rfl) ?_
  refine TL.r (EvR.load rfl Tryd.isAgg36 (AtB.own (by repeat (first | exact Has.hd | refine Has.tlb ?_ | refine Has.tlc ?_))) (by rfl)) ?_
  refine TL.callA rfl rfl Tryd.call18 (fun w hs => spread_nil hs) ?_
  rintro _ rfl
  refine TL.p (EvP.move rfl) ?_
  refine TL.p (EvP.extract rfl rfl) ?_
  refine TL.p (EvP.extract rfl rfl) ?_
  refine TL.p (EvP.extract rfl rfl) ?_
  refine TL.p (EvP.assign rfl) ?_
  refine TL.p (EvP.assign rfl) ?_
  refine TL.p (EvP.assign rfl) ?_
  refine TL.nil ?_
  refine TX.thenN rfl rfl ?_
  refine TC.seq ?_
  refine TC.region ?_
  refine TL.p (EvP.move rfl) ?_
  refine TL.p (EvP.lenS Tryd.runUnderlying36 rfl) ?_
  refine TL.p (EvP.isT (EvP.eq rfl rfl) rfl) ?_
  refine TL.p (EvP.move rfl) ?_
  refine TL.gY rfl rfl rfl ?_
  refine TL.p (EvP.move rfl) ?_
  refine TL.gY rfl rfl rfl ?_
  refine TL.p (EvP.lenS Tryd.runUnderlying39 rfl) ?_
  refine TL.gY rfl rfl rfl ?_
  refine TL.p (EvP.isT (EvP.eq rfl rfl) rfl) ?_
  refine TL.p (EvP.pickT rfl rfl) ?_
  refine TL.p (EvP.move rfl) ?_
  refine TL.gY rfl rfl rfl ?_
  refine TL.p (EvP.move rfl) ?_
  refine TL.gY rfl rfl rfl ?_
  refine TL.p (EvP.isT (EvP.eq rfl rfl) rfl) ?_
  refine TL.p (EvP.pickT rfl rfl) ?_
  refine TL.p (EvP.move rfl) ?_
  refine TL.gY rfl rfl rfl ?_
  refine TL.callA rfl rfl Tryd.call17 (fun w hs => awake_spec hT hs) ?_
  rintro _ rfl
  refine TL.p (EvP.pickT rfl rfl) ?_
  refine TL.p (EvP.assign rfl) ?_
  refine TL.nil ?_
  refine TX.thenN rfl rfl ?_
  refine TC.ret ?_
  refine TX.done rfl (Res.one rfl rfl) (fun w hs => Post0.mk hs ?_ (by repeat (first | exact Le.refl _ | exact Le.nil _ | refine Le.hit ?_ | refine Le.hit1 ?_ | refine Le.hit2 ?_ | refine Le.hit3 ?_ | refine Le.hit4 ?_ | refine Le.hit5 ?_ | refine Le.hit6 ?_ | refine Le.hit7 ?_ | refine Le.hit8 ?_ | refine Le.hit9 ?_ | refine Le.hit10 ?_ | refine Le.skip ?_)))
  rfl
end Go.Proofs.YtdbpandamnkpdaaDoor
