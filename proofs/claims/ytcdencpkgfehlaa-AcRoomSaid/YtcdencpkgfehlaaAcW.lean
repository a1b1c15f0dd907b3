/- What came in: a card, a session's name. -/
import Derived.Test.YtcdencpkgfehlaaHostW
import Derived.Test.YtcdencpkgfehlaaAcA
namespace Go.Proofs.Ytcdencpkgfehlaa
open Go.ChangeShapes Go.WideShapes Go.ChangeAt Go.RowKit Go.Deep
set_option linter.unusedVariables false
set_option maxRecDepth 100000
theorem u8_wf {x : Int} (h : (Lit.int .u8 x).wf = true) : b8 x := by
  have : 0 ≤ x ∧ x ≤ 255 := by simpa [Lit.wf, IntKind.min, IntKind.max, IntKind.signed, IntKind.bits] using h
  exact this
section
variable {H : Type} {enc : TypeId × Value → H} {w : World} {base : Nat} {spare : Nat → Bool} {held : Bool}
theorem dec_macOk (n : Nat) (cs : List Value) (x : DataW H × List MemPlace) (h : DataW.trod enc Try.prog w base spare held n 28 cs = some x) : ∃ a : Mc, cs = mcL a ∧ McOk a := by
  obtain ⟨es, m, _, _, hcl, el, eg⟩ := DataW.trod_array Try.underlying28 h
  rw [mac_cells] at hcl
  match cs, hcl with
  | [c0, c1, c2, c3, c4, c5], _ =>
    obtain ⟨u0, hu0⟩ : ∃ u, es[0]? = some u := ⟨_, List.getElem?_eq_getElem (by rw [el]; decide)⟩
    obtain ⟨a0, e0, _, w0⟩ := DataW.trod_int Try.underlying5 (show DataW.trod enc Try.prog w base spare held m 5 [c0] = some u0 from (eg 0 (by decide)).trans hu0)
    obtain ⟨u1, hu1⟩ : ∃ u, es[1]? = some u := ⟨_, List.getElem?_eq_getElem (by rw [el]; decide)⟩
    obtain ⟨a1, e1, _, w1⟩ := DataW.trod_int Try.underlying5 (show DataW.trod enc Try.prog w base spare held m 5 [c1] = some u1 from (eg 1 (by decide)).trans hu1)
    obtain ⟨u2, hu2⟩ : ∃ u, es[2]? = some u := ⟨_, List.getElem?_eq_getElem (by rw [el]; decide)⟩
    obtain ⟨a2, e2, _, w2⟩ := DataW.trod_int Try.underlying5 (show DataW.trod enc Try.prog w base spare held m 5 [c2] = some u2 from (eg 2 (by decide)).trans hu2)
    obtain ⟨u3, hu3⟩ : ∃ u, es[3]? = some u := ⟨_, List.getElem?_eq_getElem (by rw [el]; decide)⟩
    obtain ⟨a3, e3, _, w3⟩ := DataW.trod_int Try.underlying5 (show DataW.trod enc Try.prog w base spare held m 5 [c3] = some u3 from (eg 3 (by decide)).trans hu3)
    obtain ⟨u4, hu4⟩ : ∃ u, es[4]? = some u := ⟨_, List.getElem?_eq_getElem (by rw [el]; decide)⟩
    obtain ⟨a4, e4, _, w4⟩ := DataW.trod_int Try.underlying5 (show DataW.trod enc Try.prog w base spare held m 5 [c4] = some u4 from (eg 4 (by decide)).trans hu4)
    obtain ⟨u5, hu5⟩ : ∃ u, es[5]? = some u := ⟨_, List.getElem?_eq_getElem (by rw [el]; decide)⟩
    obtain ⟨a5, e5, _, w5⟩ := DataW.trod_int Try.underlying5 (show DataW.trod enc Try.prog w base spare held m 5 [c5] = some u5 from (eg 5 (by decide)).trans hu5)
    simp only [List.cons.injEq, and_true] at e0 e1 e2 e3 e4 e5
    subst e0 e1 e2 e3 e4 e5
    exact ⟨⟨a0, a1, a2, a3, a4, a5⟩, rfl, u8_wf w0, u8_wf w1, u8_wf w2, u8_wf w3, u8_wf w4, u8_wf w5⟩
theorem dec_id (n : Nat) (cs : List Value) (x : DataW H × List MemPlace) (h : DataW.trod enc Try.prog w base spare held n 61 cs = some x) : ∃ k : Idk, cs = idL k ∧ IdOk k := by
  obtain ⟨xs, m, _, _, hcl, hlen, hg⟩ := DataW.trod_struct Try.underlying61 h
  rw [id_cells] at hcl
  match cs, hcl with
  | [c0, c1, c2, c3, c4, c5, c6], _ =>
    obtain ⟨y0, hy0⟩ : ∃ u, xs[0]? = some u := ⟨_, List.getElem?_eq_getElem (by rw [hlen]; decide)⟩
    obtain ⟨y1, hy1⟩ : ∃ u, xs[1]? = some u := ⟨_, List.getElem?_eq_getElem (by rw [hlen]; decide)⟩
    obtain ⟨k, ek, wk⟩ := dec_macOk m [c0, c1, c2, c3, c4, c5] y0 (show DataW.trod enc Try.prog w base spare held m 28 [c0, c1, c2, c3, c4, c5] = some y0 from (hg 0 _ rfl).trans hy0)
    obtain ⟨n, e2, _, w2⟩ := DataW.trod_int Try.underlying3 (show DataW.trod enc Try.prog w base spare held m 3 [c6] = some y1 from (hg 1 _ rfl).trans hy1)
    simp only [mcL, List.cons.injEq, and_true] at ek e2
    obtain ⟨rfl, rfl, rfl, rfl, rfl, rfl⟩ := ek
    subst e2
    exact ⟨(k, n), rfl, wk, in64_wf w2⟩
theorem okWide_arr {P : Program} {w : World} {r : Reach} {base : Nat} {t e : TypeId} {n : Nat} {v : Value} (ht : P.underlying t = some (.array n e)) (h : Value.okWide P w r base t v) : ∃ cs, v = .agg cs ∧ cs.size = P.cellsOf t := by
  simp only [Value.okWide, ht] at h
  obtain ⟨cs, h1, h2, _⟩ := h
  exact ⟨cs, h1, h2⟩
theorem open_id {b0 : Nat} {r : Reach} {v : Value} {d : DataW H} {p : List MemPlace} (hv : Value.okWide Try.prog w r b0 61 v) (h : DataW.Trod enc Try.prog w base spare held 61 v d p) : ∃ k : Idk, v = .agg (idC k) ∧ IdOk k := by
  obtain ⟨cs, rfl, _⟩ := okWide_struct Try.underlying61 hv
  obtain ⟨fuel, hf⟩ := h
  obtain ⟨k, hk, hok⟩ := dec_id _ _ _ hf
  refine ⟨k, ?_, hok⟩
  have : cs = idC k := by
    have := congrArg List.toArray hk
    unfold idC
    simpa [Value.cells] using this
  rw [this]
theorem open_mac {b0 : Nat} {r : Reach} {v : Value} {d : DataW H} {p : List MemPlace} (hv : Value.okWide Try.prog w r b0 28 v) (h : DataW.Trod enc Try.prog w base spare held 28 v d p) : ∃ k : Mc, v = .agg (mcL k).toArray ∧ McOk k := by
  obtain ⟨cs, rfl, _⟩ := okWide_arr Try.underlying28 hv
  obtain ⟨fuel, hf⟩ := h
  obtain ⟨k, hk, hok⟩ := dec_macOk _ _ _ hf
  refine ⟨k, ?_, hok⟩
  have : cs = (mcL k).toArray := by
    have := congrArg List.toArray hk
    simpa [Value.cells] using this
  rw [this]
end
end Go.Proofs.Ytcdencpkgfehlaa
