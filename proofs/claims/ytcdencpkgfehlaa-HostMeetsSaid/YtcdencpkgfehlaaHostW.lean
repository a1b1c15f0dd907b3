/- What came in: a frame, a row of calls of a host. -/
import Derived.Test.YtcdencpkgfehlaaRowsAt
import Derived.Test.YtcdencpkgfehlaaMgC
import Derived.OpenShut
import Derived.WideShapes
namespace Go.Proofs.Ytcdencpkgfehlaa
open Go.ChangeShapes Go.WideShapes Go.ChangeAt Go.RowKit Go.Deep
set_option linter.unusedVariables false
set_option maxRecDepth 100000
theorem in64_wf {x : Int} (h : (Lit.int .i64 x).wf = true) : -9223372036854775808 ≤ x ∧ x ≤ 9223372036854775807 := by simpa [Lit.wf, IntKind.min, IntKind.max, IntKind.signed, IntKind.bits] using h
/-- a frame's values -/
structure Et where
  k : Mc
  m : Mc
  ty : Int
  d : List UInt8
def etC (f : Et) : Array Value := ethC f.k f.m f.ty f.d
theorem mac_cells : Try.prog.cellsOf 28 = 6 := by kernel_rfl
theorem eth_cells : Try.prog.cellsOf 35 = 14 := by kernel_rfl
section
variable {H : Type} {enc : TypeId × Value → H} {w : World} {base : Nat} {spare : Nat → Bool} {held : Bool}
theorem dec_mac (n : Nat) (cs : List Value) (x : DataW H × List MemPlace) (h : DataW.trod enc Try.prog w base spare held n 28 cs = some x) : ∃ a : Mc, cs = mcL a := by
  obtain ⟨es, m, _, _, hcl, el, eg⟩ := DataW.trod_array Try.underlying28 h
  rw [mac_cells] at hcl
  match cs, hcl with
  | [c0, c1, c2, c3, c4, c5], _ =>
    obtain ⟨u0, hu0⟩ : ∃ u, es[0]? = some u := ⟨_, List.getElem?_eq_getElem (by rw [el]; decide)⟩
    obtain ⟨a0, e0, _, _⟩ := DataW.trod_int Try.underlying5 (show DataW.trod enc Try.prog w base spare held m 5 [c0] = some u0 from (eg 0 (by decide)).trans hu0)
    obtain ⟨u1, hu1⟩ : ∃ u, es[1]? = some u := ⟨_, List.getElem?_eq_getElem (by rw [el]; decide)⟩
    obtain ⟨a1, e1, _, _⟩ := DataW.trod_int Try.underlying5 (show DataW.trod enc Try.prog w base spare held m 5 [c1] = some u1 from (eg 1 (by decide)).trans hu1)
    obtain ⟨u2, hu2⟩ : ∃ u, es[2]? = some u := ⟨_, List.getElem?_eq_getElem (by rw [el]; decide)⟩
    obtain ⟨a2, e2, _, _⟩ := DataW.trod_int Try.underlying5 (show DataW.trod enc Try.prog w base spare held m 5 [c2] = some u2 from (eg 2 (by decide)).trans hu2)
    obtain ⟨u3, hu3⟩ : ∃ u, es[3]? = some u := ⟨_, List.getElem?_eq_getElem (by rw [el]; decide)⟩
    obtain ⟨a3, e3, _, _⟩ := DataW.trod_int Try.underlying5 (show DataW.trod enc Try.prog w base spare held m 5 [c3] = some u3 from (eg 3 (by decide)).trans hu3)
    obtain ⟨u4, hu4⟩ : ∃ u, es[4]? = some u := ⟨_, List.getElem?_eq_getElem (by rw [el]; decide)⟩
    obtain ⟨a4, e4, _, _⟩ := DataW.trod_int Try.underlying5 (show DataW.trod enc Try.prog w base spare held m 5 [c4] = some u4 from (eg 4 (by decide)).trans hu4)
    obtain ⟨u5, hu5⟩ : ∃ u, es[5]? = some u := ⟨_, List.getElem?_eq_getElem (by rw [el]; decide)⟩
    obtain ⟨a5, e5, _, _⟩ := DataW.trod_int Try.underlying5 (show DataW.trod enc Try.prog w base spare held m 5 [c5] = some u5 from (eg 5 (by decide)).trans hu5)
    simp only [List.cons.injEq, and_true] at e0 e1 e2 e3 e4 e5
    subst e0 e1 e2 e3 e4 e5
    exact ⟨⟨a0, a1, a2, a3, a4, a5⟩, rfl⟩
theorem dec_eth (n : Nat) (cs : List Value) (x : DataW H × List MemPlace) (h : DataW.trod enc Try.prog w base spare held n 35 cs = some x) : ∃ f : Et, cs = (etC f).toList ∧ True := by
  obtain ⟨xs, m, _, _, hcl, hlen, hg⟩ := DataW.trod_struct Try.underlying35 h
  rw [eth_cells] at hcl
  match cs, hcl with
  | [c0, c1, c2, c3, c4, c5, c6, c7, c8, c9, c10, c11, c12, c13], _ =>
    obtain ⟨y0, hy0⟩ : ∃ u, xs[0]? = some u := ⟨_, List.getElem?_eq_getElem (by rw [hlen]; decide)⟩
    obtain ⟨y1, hy1⟩ : ∃ u, xs[1]? = some u := ⟨_, List.getElem?_eq_getElem (by rw [hlen]; decide)⟩
    obtain ⟨y2, hy2⟩ : ∃ u, xs[2]? = some u := ⟨_, List.getElem?_eq_getElem (by rw [hlen]; decide)⟩
    obtain ⟨y3, hy3⟩ : ∃ u, xs[3]? = some u := ⟨_, List.getElem?_eq_getElem (by rw [hlen]; decide)⟩
    obtain ⟨k, ek⟩ := dec_mac m [c0, c1, c2, c3, c4, c5] y0 (show DataW.trod enc Try.prog w base spare held m 28 [c0, c1, c2, c3, c4, c5] = some y0 from (hg 0 _ rfl).trans hy0)
    obtain ⟨s, es⟩ := dec_mac m [c6, c7, c8, c9, c10, c11] y1 (show DataW.trod enc Try.prog w base spare held m 28 [c6, c7, c8, c9, c10, c11] = some y1 from (hg 1 _ rfl).trans hy1)
    obtain ⟨ty, e2, _, _⟩ := DataW.trod_int Try.underlying3 (show DataW.trod enc Try.prog w base spare held m 3 [c12] = some y2 from (hg 2 _ rfl).trans hy2)
    obtain ⟨d, e3, _, _⟩ := DataW.trod_string Try.underlying9 (show DataW.trod enc Try.prog w base spare held m 9 [c13] = some y3 from (hg 3 _ rfl).trans hy3)
    simp only [mcL, List.cons.injEq, and_true] at ek es e2 e3
    obtain ⟨rfl, rfl, rfl, rfl, rfl, rfl⟩ := ek
    obtain ⟨rfl, rfl, rfl, rfl, rfl, rfl⟩ := es
    subst e2 e3
    exact ⟨⟨k, s, ty, d.data.toList⟩, by unfold etC ethC; simp only [← B_of], trivial⟩
/-- a call: its kind, a frame, data -/
structure HOp where
  kd : Int
  f : Et
  dt : List UInt8
def hopL (o : HOp) : List Value := [.int .i64 o.kd] ++ (etC o.f).toList ++ [.string (B o.dt)]
theorem hop_cells : Try.prog.cellsOf 39 = 16 := by kernel_rfl
theorem dec_hop (n : Nat) (cs : List Value) (x : DataW H × List MemPlace) (h : DataW.trod enc Try.prog w base spare held n 39 cs = some x) : ∃ o : HOp, cs = hopL o ∧ True := by
  obtain ⟨xs, m, _, _, hcl, hlen, hg⟩ := DataW.trod_struct Try.underlying39 h
  rw [hop_cells] at hcl
  match cs, hcl with
  | [c0, c1, c2, c3, c4, c5, c6, c7, c8, c9, c10, c11, c12, c13, c14, c15], _ =>
    obtain ⟨y0, hy0⟩ : ∃ u, xs[0]? = some u := ⟨_, List.getElem?_eq_getElem (by rw [hlen]; decide)⟩
    obtain ⟨y1, hy1⟩ : ∃ u, xs[1]? = some u := ⟨_, List.getElem?_eq_getElem (by rw [hlen]; decide)⟩
    obtain ⟨y2, hy2⟩ : ∃ u, xs[2]? = some u := ⟨_, List.getElem?_eq_getElem (by rw [hlen]; decide)⟩
    obtain ⟨kd, e0, _, _⟩ := DataW.trod_int Try.underlying3 (show DataW.trod enc Try.prog w base spare held m 3 [c0] = some y0 from (hg 0 _ rfl).trans hy0)
    obtain ⟨f, ef, _⟩ := dec_eth m [c1, c2, c3, c4, c5, c6, c7, c8, c9, c10, c11, c12, c13, c14] y1 (show DataW.trod enc Try.prog w base spare held m 35 [c1, c2, c3, c4, c5, c6, c7, c8, c9, c10, c11, c12, c13, c14] = some y1 from (hg 1 _ rfl).trans hy1)
    obtain ⟨d, e2, _, _⟩ := DataW.trod_string Try.underlying9 (show DataW.trod enc Try.prog w base spare held m 9 [c15] = some y2 from (hg 2 _ rfl).trans hy2)
    simp only [List.cons.injEq, and_true] at e0 e2
    subst e0 e2
    refine ⟨⟨kd, f, d.data.toList⟩, ?_, trivial⟩
    unfold hopL
    rw [← ef, ← B_of]
    rfl
theorem open_hops {a : Option Addr} {len cap : Nat} {d : DataW H} {ps : List MemPlace} (h : DataW.Trod enc Try.prog w base spare held 37 (.slice a len cap) d ps) : ∃ l, RowsAt w a len cap 16 hopL (fun _ => True) l :=
  rows_of Try.underlying37 hop_cells (by decide) dec_hop h
theorem open_eth {b0 : Nat} {r : Reach} {v : Value} {d : DataW H} {p : List MemPlace} (hv : Value.okWide Try.prog w r b0 35 v) (h : DataW.Trod enc Try.prog w base spare held 35 v d p) : ∃ f : Et, v = .agg (etC f) ∧ True := by
  obtain ⟨cs, rfl, _⟩ := okWide_struct Try.underlying35 hv
  obtain ⟨fuel, hf⟩ := h
  obtain ⟨k, hk, hok⟩ := dec_eth _ _ _ hf
  refine ⟨k, ?_, hok⟩
  have : cs = etC k := by
    have := congrArg List.toArray hk
    simpa [Value.cells] using this
  rw [this]
end
end Go.Proofs.Ytcdencpkgfehlaa
