/- What came in: rows of numbers, rows of calls, a key. -/
import Derived.Test.YtfchbppfbepelaaGreatRowsAt
import Derived.Test.YtfchbppfbepelaaGreatTapeB
import Derived.OpenShut
import Derived.WideShapes
namespace Go.Proofs.YtfchbppfbepelaaGreat
open Go.ChangeShapes Go.WideShapes Go.ChangeAt Go.RowKit Go.Deep
set_option linter.unusedVariables false
set_option maxRecDepth 100000 in
theorem in64_wf {x : Int} (h : (Lit.int .i64 x).wf = true) : In64 x := by
  have : -9223372036854775808 ≤ x ∧ x ≤ 9223372036854775807 := by simpa [Lit.wf, IntKind.min, IntKind.max, IntKind.signed, IntKind.bits] using h
  exact this
abbrev Ky := Int × Int
def kyC (k : Ky) : Array Value := #[.int .i64 k.1, .int .i64 k.2]
def KyOk (k : Ky) : Prop := In64 k.1 ∧ In64 k.2
set_option maxRecDepth 100000 in
theorem ky_cells : Tryz.prog.cellsOf 141 = 2 := by kernel_rfl
set_option maxRecDepth 100000 in
theorem int_cells : Tryz.prog.cellsOf 3 = 1 := by kernel_rfl
section
variable {H : Type} {enc : TypeId × Value → H} {w : World} {base : Nat} {spare : Nat → Bool} {held : Bool}
set_option maxRecDepth 100000 in
theorem dec_key (n : Nat) (cs : List Value) (x : DataW H × List MemPlace) (h : DataW.trod enc Tryz.prog w base spare held n 141 cs = some x) : ∃ k : Ky, cs = (kyC k).toList ∧ KyOk k := by
  obtain ⟨xs, m, _, _, hcl, hlen, hg⟩ := DataW.trod_struct Tryz.underlying141 h
  rw [ky_cells] at hcl
  match cs, hcl with
  | [c0, c1], _ =>
    obtain ⟨y0, hy0⟩ : ∃ u, xs[0]? = some u := ⟨_, List.getElem?_eq_getElem (by rw [hlen]; decide)⟩
    obtain ⟨y1, hy1⟩ : ∃ u, xs[1]? = some u := ⟨_, List.getElem?_eq_getElem (by rw [hlen]; decide)⟩
    obtain ⟨a0, e0, _, w0⟩ := DataW.trod_int Tryz.underlying3 (show DataW.trod enc Tryz.prog w base spare held m 3 [c0] = some y0 from (hg 0 _ rfl).trans hy0)
    obtain ⟨a1, e1, _, w1⟩ := DataW.trod_int Tryz.underlying3 (show DataW.trod enc Tryz.prog w base spare held m 3 [c1] = some y1 from (hg 1 _ rfl).trans hy1)
    simp only [List.cons.injEq, and_true] at e0 e1
    subst e0 e1
    exact ⟨(a0, a1), rfl, in64_wf w0, in64_wf w1⟩
/-- a call: its kind, a key, a number -/
structure OpR where
  kd : Int
  k : Int
  id : Int
  n : Int
def opL (o : OpR) : List Value := [.int .i64 o.kd, .int .i64 o.k, .int .i64 o.id, .int .i64 o.n]
def OpOk (o : OpR) : Prop := In64 o.kd ∧ In64 o.k ∧ In64 o.id ∧ In64 o.n
set_option maxRecDepth 100000 in
theorem op_cells : Tryz.prog.cellsOf 139 = 4 := by kernel_rfl
set_option maxRecDepth 100000 in
theorem dec_op (n : Nat) (cs : List Value) (x : DataW H × List MemPlace) (h : DataW.trod enc Tryz.prog w base spare held n 139 cs = some x) : ∃ o : OpR, cs = opL o ∧ OpOk o := by
  obtain ⟨xs, m, _, _, hcl, hlen, hg⟩ := DataW.trod_struct Tryz.underlying139 h
  rw [op_cells] at hcl
  match cs, hcl with
  | [c0, c1, c2, c3], _ =>
    obtain ⟨y0, hy0⟩ : ∃ u, xs[0]? = some u := ⟨_, List.getElem?_eq_getElem (by rw [hlen]; decide)⟩
    obtain ⟨y1, hy1⟩ : ∃ u, xs[1]? = some u := ⟨_, List.getElem?_eq_getElem (by rw [hlen]; decide)⟩
    obtain ⟨y2, hy2⟩ : ∃ u, xs[2]? = some u := ⟨_, List.getElem?_eq_getElem (by rw [hlen]; decide)⟩
    obtain ⟨y3, hy3⟩ : ∃ u, xs[3]? = some u := ⟨_, List.getElem?_eq_getElem (by rw [hlen]; decide)⟩
    obtain ⟨a0, e0, _, w0⟩ := DataW.trod_int Tryz.underlying3 (show DataW.trod enc Tryz.prog w base spare held m 3 [c0] = some y0 from (hg 0 _ rfl).trans hy0)
    obtain ⟨a1, e1, _, w1⟩ := DataW.trod_int Tryz.underlying3 (show DataW.trod enc Tryz.prog w base spare held m 3 [c1] = some y1 from (hg 1 _ rfl).trans hy1)
    obtain ⟨a2, e2, _, w2⟩ := DataW.trod_int Tryz.underlying3 (show DataW.trod enc Tryz.prog w base spare held m 3 [c2] = some y2 from (hg 2 _ rfl).trans hy2)
    obtain ⟨a3, e3, _, w3⟩ := DataW.trod_int Tryz.underlying3 (show DataW.trod enc Tryz.prog w base spare held m 3 [c3] = some y3 from (hg 3 _ rfl).trans hy3)
    simp only [List.cons.injEq, and_true] at e0 e1 e2 e3
    subst e0 e1 e2 e3
    exact ⟨⟨a0, a1, a2, a3⟩, rfl, in64_wf w0, in64_wf w1, in64_wf w2, in64_wf w3⟩
def IsOps (w : World) (a : Option Addr) (len cap : Nat) (l : List OpR) : Prop := RowsAt w a len cap 4 opL OpOk l
set_option maxRecDepth 100000 in
theorem open_ops {a : Option Addr} {len cap : Nat} {d : DataW H} {ps : List MemPlace} (h : DataW.Trod enc Tryz.prog w base spare held 128 (.slice a len cap) d ps) : ∃ l, IsOps w a len cap l :=
  rows_of Tryz.underlying128 op_cells (by decide) dec_op h
def IsInts (w : World) (a : Option Addr) (len cap : Nat) (l : List Int) : Prop := RowsAt w a len cap 1 (fun x => [i64V x]) In64 l
set_option maxRecDepth 100000 in
theorem dec_int (n : Nat) (cs : List Value) (x : DataW H × List MemPlace) (h : DataW.trod enc Tryz.prog w base spare held n 3 cs = some x) : ∃ a : Int, cs = [i64V a] ∧ In64 a := by
  obtain ⟨a0, e0, _, w0⟩ := DataW.trod_int Tryz.underlying3 h
  exact ⟨a0, e0, in64_wf w0⟩
set_option maxRecDepth 100000 in
theorem open_introw {a : Option Addr} {len cap : Nat} {d : DataW H} {ps : List MemPlace} (h : DataW.Trod enc Tryz.prog w base spare held 276 (.slice a len cap) d ps) : ∃ l, IsInts w a len cap l :=
  rows_of Tryz.underlying276 int_cells (by decide) dec_int h
set_option maxRecDepth 100000 in
theorem open_key {b0 : Nat} {r : Reach} {v : Value} {d : DataW H} {p : List MemPlace} (hv : Value.okWide Tryz.prog w r b0 141 v) (h : DataW.Trod enc Tryz.prog w base spare held 141 v d p) : ∃ k : Ky, v = .agg (kyC k) ∧ KyOk k := by
  obtain ⟨cs, rfl, _⟩ := okWide_struct Tryz.underlying141 hv
  obtain ⟨fuel, hf⟩ := h
  obtain ⟨k, hk, hok⟩ := dec_key _ _ _ hf
  refine ⟨k, ?_, hok⟩
  have : cs = kyC k := by
    have := congrArg List.toArray hk
    simpa [Value.cells] using this
  rw [this]
end
set_option maxRecDepth 100000 in
/-- a row of numbers that came in, as a list that reads -/
theorem IsInts.reads {w : World} {a : Option Addr} {len cap : Nat} {l : List Int} (h : IsInts w a len cap l) : Reads w w.heap.size 1 a l.length (l.map i64V) := by
  refine ⟨by simp, fun hn => ?_⟩
  obtain ⟨hl, h1, h2, hV, hc⟩ := h
  rcases hc with hc | ⟨b, off, rfl, hb, hc⟩
  · omega
  · refine ⟨_, rfl, hb, fun j u hu => ?_⟩
    rw [List.getElem?_map] at hu
    cases hj : l[j]? with
    | none => rw [hj] at hu; cases hu
    | some x =>
      rw [hj] at hu
      simp at hu
      have := hc j x hj 0 u (by simp [hu])
      have e : (⟨b, off, none⟩ : Addr).add j = ⟨b, off + j, none⟩ := by unfold Addr.add; split <;> simp_all
      rw [e]
      simpa using this
end Go.Proofs.YtfchbppfbepelaaGreat
