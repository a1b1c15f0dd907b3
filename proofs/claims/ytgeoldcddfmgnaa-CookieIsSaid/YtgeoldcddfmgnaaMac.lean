/- The opening of an array parameter: six bytes. -/
import Derived.Test.YtgeoldcddfmgnaaAlive6
import Derived.OpenShut
import Derived.WideShapes
namespace Go.Proofs.Ytgeoldcddfmgnaa
open Go.RowKit Go.WideShapes Go.ChangeShapes
set_option linter.unusedVariables false
theorem okWide_arr {P : Program} {w : World} {r : Reach} {base : Nat} {t e : TypeId} {n : Nat} {v : Value} (ht : P.underlying t = some (.array n e)) (h : Value.okWide P w r base t v) : ∃ cs, v = .agg cs ∧ cs.size = P.cellsOf t := by
  simp only [Value.okWide, ht] at h
  obtain ⟨cs, h1, h2, _⟩ := h
  exact ⟨cs, h1, h2⟩
theorem open_mac {H : Type} {enc : TypeId × Value → H} {w : World} {base b0 : Nat} {spare : Nat → Bool} {held : Bool} {r : Reach} {v : Value} {d : DataW H} {p : List MemPlace}
    (hv : Value.okWide Try.prog w r b0 35 v) (h : DataW.Trod enc Try.prog w base spare held 35 v d p) :
    ∃ (a0 : Int) (a1 : Int) (a2 : Int) (a3 : Int) (a4 : Int) (a5 : Int), v = .agg #[.int .u8 a0, .int .u8 a1, .int .u8 a2, .int .u8 a3, .int .u8 a4, .int .u8 a5] ∧ (Lit.int .u8 a0).wf = true ∧ (Lit.int .u8 a1).wf = true ∧ (Lit.int .u8 a2).wf = true ∧ (Lit.int .u8 a3).wf = true ∧ (Lit.int .u8 a4).wf = true ∧ (Lit.int .u8 a5).wf = true := by
  obtain ⟨cs, rfl, hsz⟩ := okWide_arr Try.underlying35 hv
  rw [show Try.prog.cellsOf 35 = 6 from by kernel_rfl] at hsz
  obtain ⟨c0, c1, c2, c3, c4, c5, rfl⟩ : ∃ c0 c1 c2 c3 c4 c5 : Value, cs = #[c0, c1, c2, c3, c4, c5] := by
    obtain ⟨l⟩ := cs
    match l, hsz with
    | [c0, c1, c2, c3, c4, c5], _ => exact ⟨c0, c1, c2, c3, c4, c5, rfl⟩
  obtain ⟨fuel, hf⟩ := h
  obtain ⟨es, m, _, _, _, el, eg⟩ := DataW.trod_array Try.underlying35 hf
  obtain ⟨u0, hu0⟩ : ∃ u, es[0]? = some u := ⟨_, List.getElem?_eq_getElem (by rw [el]; decide)⟩
  obtain ⟨a0, e0, _, w0⟩ := DataW.trod_int Try.underlying5 (show DataW.trod enc Try.prog w base spare held m 5 [c0] = some u0 from (eg 0 (by decide)).trans hu0)
  obtain ⟨u1, hu1⟩ : ∃ u, es[1]? = some u := ⟨_, List.getElem?_eq_getElem (by rw [el]; decide)⟩
  obtain ⟨a1, e1, _, w1⟩ := DataW.trod_int Try.underlying5 (show DataW.trod enc Try.prog w base spare held m 5 [c1] = some u1 from (eg 1 (by decide)).trans hu1)
  obtain ⟨u2, hu2⟩ : ∃ u, es[2]? = some u := ⟨_, List.getElem?_eq_getElem (by rw [el]; decide)⟩
  obtain ⟨a2, e2, _, w2⟩ := DataW.trod_int Try.underlying5 (show DataW.trod enc Try.prog w base spare held m 5 [c2] = some u2 from (eg 2 (by decide)).trans hu2)
  obtain ⟨u3, hu3⟩ : ∃ u, es[3]? = some u := ⟨_, List.getElem?_eq_getElem (by rw [el]; decide)⟩
  obtain ⟨a3, e3, _, w3⟩ := DataW.trod_int Try.underlying5 (show DataW.trod enc Try.prog w base spare held m 5 [c3] = some u3 from (eg 3 (by decide)).trans hu3)
  obtain ⟨u4, hu4⟩ : ∃ u, es[4]? = some u := ⟨_, List.getElem?_eq_getElem (by rw [el]; decide)⟩
  obtain ⟨a4, e4, _, w4⟩ := DataW.trod_int Try.underlying5 (show DataW.trod enc Try.prog w base spare held m 5 [c4] = some u4 from (eg 4 (by decide)).trans hu4)
  obtain ⟨u5, hu5⟩ : ∃ u, es[5]? = some u := ⟨_, List.getElem?_eq_getElem (by rw [el]; decide)⟩
  obtain ⟨a5, e5, _, w5⟩ := DataW.trod_int Try.underlying5 (show DataW.trod enc Try.prog w base spare held m 5 [c5] = some u5 from (eg 5 (by decide)).trans hu5)
  simp only [List.cons.injEq, and_true] at e0 e1 e2 e3 e4 e5
  subst e0 e1 e2 e3 e4 e5
  exact ⟨a0, a1, a2, a3, a4, a5, rfl, w0, w1, w2, w3, w4, w5⟩
end Go.Proofs.Ytgeoldcddfmgnaa
