/- HostPlays: the rows that came in, with the sizes of what is in them. -/
import Derived.Test.YtfchbppfbepelaaGreatHostW
import Derived.Test.YtfchbppfbepelaaGreatMgA
namespace Go.Proofs.YtfchbppfbepelaaGreat
open Go.ChangeShapes Go.WideShapes Go.ChangeAt Go.RowKit Go.Deep
set_option linter.unusedVariables false
set_option maxRecDepth 100000
def HopOk (o : HOp) : Prop := o.f.d.length ≤ 140737488351232 ∧ o.dt.length ≤ 140737488351232
section
variable {H : Type} {enc : TypeId × Value → H} {w : World} {base : Nat} {spare : Nat → Bool} {held : Bool}
theorem weights_subP {P : Program} {t : TypeId} {parts : List (DataW H)} {fs : Array Field} (hu : P.underlying t = some (.struct fs)) (h : ∀ k, k ∈ (DataW.agg parts).weights P t → k ≤ reachBytes) {j : Nat} {u : TypeId} {d : DataW H} (ht : (fs.toList.map (·.type))[j]? = some u) (hd : parts[j]? = some d) : ∀ k, k ∈ d.weights P u → k ≤ reachBytes := fun k hk =>
  h _ (by simp only [DataW.weights, hu]; exact DataW.weights_mem_each ht hd _ hk)
theorem dec_ethS (n : Nat) (cs : List Value) (x : DataW H × List MemPlace) (h : DataW.trod enc Tryz.prog w base spare held n 113 cs = some x) (hw : ∀ k, k ∈ x.1.weights Tryz.prog 113 → k ≤ reachBytes) : ∃ f : Et, cs = (etC f).toList ∧ f.d.length ≤ 140737488351232 := by
  obtain ⟨xs, m, _, hxe, hcl, hlen, hg⟩ := DataW.trod_struct Tryz.underlying113 h
  rw [eth_cells] at hcl
  match cs, hcl with
  | [c0, c1, c2, c3, c4, c5, c6, c7, c8, c9, c10, c11, c12, c13], _ =>
    obtain ⟨y0, hy0⟩ : ∃ u, xs[0]? = some u := ⟨_, List.getElem?_eq_getElem (by rw [hlen]; decide)⟩
    obtain ⟨y1, hy1⟩ : ∃ u, xs[1]? = some u := ⟨_, List.getElem?_eq_getElem (by rw [hlen]; decide)⟩
    obtain ⟨y2, hy2⟩ : ∃ u, xs[2]? = some u := ⟨_, List.getElem?_eq_getElem (by rw [hlen]; decide)⟩
    obtain ⟨y3, hy3⟩ : ∃ u, xs[3]? = some u := ⟨_, List.getElem?_eq_getElem (by rw [hlen]; decide)⟩
    obtain ⟨k, ek⟩ := dec_mac m [c0, c1, c2, c3, c4, c5] y0 (show DataW.trod enc Tryz.prog w base spare held m 104 [c0, c1, c2, c3, c4, c5] = some y0 from (hg 0 _ rfl).trans hy0)
    obtain ⟨s, es⟩ := dec_mac m [c6, c7, c8, c9, c10, c11] y1 (show DataW.trod enc Tryz.prog w base spare held m 104 [c6, c7, c8, c9, c10, c11] = some y1 from (hg 1 _ rfl).trans hy1)
    obtain ⟨ty, e2, _, _⟩ := DataW.trod_int Tryz.underlying3 (show DataW.trod enc Tryz.prog w base spare held m 3 [c12] = some y2 from (hg 2 _ rfl).trans hy2)
    obtain ⟨d, e3, f3, _⟩ := DataW.trod_string Tryz.underlying9 (show DataW.trod enc Tryz.prog w base spare held m 9 [c13] = some y3 from (hg 3 _ rfl).trans hy3)
    simp only [mcL, List.cons.injEq, and_true] at ek es e2 e3
    obtain ⟨rfl, rfl, rfl, rfl, rfl, rfl⟩ := ek
    obtain ⟨rfl, rfl, rfl, rfl, rfl, rfl⟩ := es
    subst e2 e3 f3
    rw [hxe] at hw
    have q3 := weights_str Tryz.underlying113 hw (j := 3) (u := 9) rfl (by rw [List.getElem?_map, hy3]; rfl)
    unfold reachBytes at q3
    exact ⟨⟨k, s, ty, d.data.toList⟩, by unfold etC ethC; simp only [← B_of], Nat.le_trans q3 (by decide)⟩
theorem dec_hopS (n : Nat) (cs : List Value) (x : DataW H × List MemPlace) (h : DataW.trod enc Tryz.prog w base spare held n 115 cs = some x) (hw : ∀ k, k ∈ x.1.weights Tryz.prog 115 → k ≤ reachBytes) : ∃ o : HOp, cs = hopL o ∧ HopOk o := by
  obtain ⟨xs, m, _, hxe, hcl, hlen, hg⟩ := DataW.trod_struct Tryz.underlying115 h
  rw [hop_cells] at hcl
  match cs, hcl with
  | [c0, c1, c2, c3, c4, c5, c6, c7, c8, c9, c10, c11, c12, c13, c14, c15], _ =>
    obtain ⟨y0, hy0⟩ : ∃ u, xs[0]? = some u := ⟨_, List.getElem?_eq_getElem (by rw [hlen]; decide)⟩
    obtain ⟨y1, hy1⟩ : ∃ u, xs[1]? = some u := ⟨_, List.getElem?_eq_getElem (by rw [hlen]; decide)⟩
    obtain ⟨y2, hy2⟩ : ∃ u, xs[2]? = some u := ⟨_, List.getElem?_eq_getElem (by rw [hlen]; decide)⟩
    obtain ⟨kd, e0, _, _⟩ := DataW.trod_int Tryz.underlying3 (show DataW.trod enc Tryz.prog w base spare held m 3 [c0] = some y0 from (hg 0 _ rfl).trans hy0)
    rw [hxe] at hw
    obtain ⟨f, ef, hfl⟩ := dec_ethS m [c1, c2, c3, c4, c5, c6, c7, c8, c9, c10, c11, c12, c13, c14] y1 (show DataW.trod enc Tryz.prog w base spare held m 113 [c1, c2, c3, c4, c5, c6, c7, c8, c9, c10, c11, c12, c13, c14] = some y1 from (hg 1 _ rfl).trans hy1) (weights_subP Tryz.underlying115 hw (j := 1) (u := 113) rfl (by rw [List.getElem?_map, hy1]; rfl))
    obtain ⟨d, e2, f2, _⟩ := DataW.trod_string Tryz.underlying9 (show DataW.trod enc Tryz.prog w base spare held m 9 [c15] = some y2 from (hg 2 _ rfl).trans hy2)
    simp only [List.cons.injEq, and_true] at e0 e2
    subst e0 e2 f2
    have q2 := weights_str Tryz.underlying115 hw (j := 2) (u := 9) rfl (by rw [List.getElem?_map, hy2]; rfl)
    unfold reachBytes at q2
    refine ⟨⟨kd, f, d.data.toList⟩, ?_, hfl, Nat.le_trans q2 (by decide)⟩
    unfold hopL
    rw [← ef, ← B_of]
    rfl
theorem open_hopsS {a : Option Addr} {len cap : Nat} {d : DataW H} {ps : List MemPlace} (h : DataW.Trod enc Tryz.prog w base spare held 105 (.slice a len cap) d ps) (hs : ∀ k, k ∈ d.weights Tryz.prog 105 → k ≤ reachBytes) : ∃ l, RowsAt w a len cap 16 hopL HopOk l :=
  rows_ofS Tryz.underlying105 hop_cells (by decide) dec_hopS h hs
end
end Go.Proofs.YtfchbppfbepelaaGreat
