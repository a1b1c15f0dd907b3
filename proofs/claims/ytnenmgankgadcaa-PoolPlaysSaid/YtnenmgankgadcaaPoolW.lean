/- What came in: a key, an address, a row of calls, a row of numbers. -/
import Derived.Test.YtnenmgankgadcaaRowsAt
import Derived.Test.YtnenmgankgadcaaPoolKey
import Derived.OpenShut
import Derived.WideShapes
namespace Go.Proofs.Ytnenmgankgadcaa
open Go.ChangeShapes Go.WideShapes Go.ChangeAt Go.RowKit Go.Deep
set_option linter.unusedVariables false
theorem in64_wf {x : Int} (h : (Lit.int .i64 x).wf = true) : -9223372036854775808 ≤ x ∧ x ≤ 9223372036854775807 := by simpa [Lit.wf, IntKind.min, IntKind.max, IntKind.signed, IntKind.bits] using h
theorem u8_wf {x : Int} (h : (Lit.int .u8 x).wf = true) : u8 x := by
  have : 0 ≤ x ∧ x ≤ 255 := by simpa [Lit.wf, IntKind.min, IntKind.max, IntKind.signed, IntKind.bits] using h
  unfold u8; omega
section
variable {H : Type} {enc : TypeId × Value → H} {w : World} {base : Nat} {spare : Nat → Bool} {held : Bool}
theorem dec_key (n : Nat) (cs : List Value) (x : DataW H × List MemPlace) (h : DataW.trod enc Try.prog w base spare held n 36 cs = some x) : ∃ k : Ky, cs = (kyC k).toList ∧ KyOk k := by
  obtain ⟨xs, m, _, _, hcl, hlen, hg⟩ := DataW.trod_struct Try.underlying36 h
  rw [ky_cells] at hcl
  match cs, hcl with
  | [c0, c1], _ =>
    obtain ⟨y0, hy0⟩ : ∃ u, xs[0]? = some u := ⟨_, List.getElem?_eq_getElem (by rw [hlen]; decide)⟩
    obtain ⟨y1, hy1⟩ : ∃ u, xs[1]? = some u := ⟨_, List.getElem?_eq_getElem (by rw [hlen]; decide)⟩
    obtain ⟨a0, e0, _, w0⟩ := DataW.trod_int Try.underlying3 (show DataW.trod enc Try.prog w base spare held m 3 [c0] = some y0 from (hg 0 _ rfl).trans hy0)
    obtain ⟨a1, e1, _, w1⟩ := DataW.trod_int Try.underlying3 (show DataW.trod enc Try.prog w base spare held m 3 [c1] = some y1 from (hg 1 _ rfl).trans hy1)
    simp only [List.cons.injEq, and_true] at e0 e1
    subst e0 e1
    exact ⟨(a0, a1), rfl, in64_wf w0, in64_wf w1⟩
theorem dec_addr (n : Nat) (cs : List Value) (x : DataW H × List MemPlace) (h : DataW.trod enc Try.prog w base spare held n 23 cs = some x) : ∃ a : Ad, cs = (adC a).toList ∧ AdOk a := by
  obtain ⟨es, m, _, _, hcl, el, eg⟩ := DataW.trod_array Try.underlying23 h
  rw [ad_cells] at hcl
  match cs, hcl with
  | [c0, c1, c2, c3], _ =>
    obtain ⟨u0, hu0⟩ : ∃ u, es[0]? = some u := ⟨_, List.getElem?_eq_getElem (by rw [el]; decide)⟩
    obtain ⟨a0, e0, _, w0⟩ := DataW.trod_int Try.underlying5 (show DataW.trod enc Try.prog w base spare held m 5 [c0] = some u0 from (eg 0 (by decide)).trans hu0)
    obtain ⟨u1, hu1⟩ : ∃ u, es[1]? = some u := ⟨_, List.getElem?_eq_getElem (by rw [el]; decide)⟩
    obtain ⟨a1, e1, _, w1⟩ := DataW.trod_int Try.underlying5 (show DataW.trod enc Try.prog w base spare held m 5 [c1] = some u1 from (eg 1 (by decide)).trans hu1)
    obtain ⟨u2, hu2⟩ : ∃ u, es[2]? = some u := ⟨_, List.getElem?_eq_getElem (by rw [el]; decide)⟩
    obtain ⟨a2, e2, _, w2⟩ := DataW.trod_int Try.underlying5 (show DataW.trod enc Try.prog w base spare held m 5 [c2] = some u2 from (eg 2 (by decide)).trans hu2)
    obtain ⟨u3, hu3⟩ : ∃ u, es[3]? = some u := ⟨_, List.getElem?_eq_getElem (by rw [el]; decide)⟩
    obtain ⟨a3, e3, _, w3⟩ := DataW.trod_int Try.underlying5 (show DataW.trod enc Try.prog w base spare held m 5 [c3] = some u3 from (eg 3 (by decide)).trans hu3)
    simp only [List.cons.injEq, and_true] at e0 e1 e2 e3
    subst e0 e1 e2 e3
    exact ⟨(a0, a1, a2, a3), rfl, u8_wf w0, u8_wf w1, u8_wf w2, u8_wf w3⟩
/-- a call: its kind, a key, an address -/
structure OpR where
  kd : Int
  k : Ky
  a : Ad
def opL (o : OpR) : List Value := [.int .i64 o.kd, .int .i64 o.k.1, .int .i64 o.k.2, .int .u8 o.a.1, .int .u8 o.a.2.1, .int .u8 o.a.2.2.1, .int .u8 o.a.2.2.2]
def OpOk (o : OpR) : Prop := (-9223372036854775808 ≤ o.kd ∧ o.kd ≤ 9223372036854775807) ∧ KyOk o.k ∧ AdOk o.a
theorem op_cells : Try.prog.cellsOf 44 = 7 := by kernel_rfl
theorem dec_op (n : Nat) (cs : List Value) (x : DataW H × List MemPlace) (h : DataW.trod enc Try.prog w base spare held n 44 cs = some x) : ∃ o : OpR, cs = opL o ∧ OpOk o := by
  obtain ⟨xs, m, _, _, hcl, hlen, hg⟩ := DataW.trod_struct Try.underlying44 h
  rw [op_cells] at hcl
  match cs, hcl with
  | [c0, c1, c2, c3, c4, c5, c6], _ =>
    obtain ⟨y0, hy0⟩ : ∃ u, xs[0]? = some u := ⟨_, List.getElem?_eq_getElem (by rw [hlen]; decide)⟩
    obtain ⟨y1, hy1⟩ : ∃ u, xs[1]? = some u := ⟨_, List.getElem?_eq_getElem (by rw [hlen]; decide)⟩
    obtain ⟨y2, hy2⟩ : ∃ u, xs[2]? = some u := ⟨_, List.getElem?_eq_getElem (by rw [hlen]; decide)⟩
    obtain ⟨a0, e0, _, w0⟩ := DataW.trod_int Try.underlying3 (show DataW.trod enc Try.prog w base spare held m 3 [c0] = some y0 from (hg 0 _ rfl).trans hy0)
    obtain ⟨k, ek, wk⟩ := dec_key m [c1, c2] y1 (show DataW.trod enc Try.prog w base spare held m 36 [c1, c2] = some y1 from (hg 1 _ rfl).trans hy1)
    obtain ⟨a, ea, wa⟩ := dec_addr m [c3, c4, c5, c6] y2 (show DataW.trod enc Try.prog w base spare held m 23 [c3, c4, c5, c6] = some y2 from (hg 2 _ rfl).trans hy2)
    simp only [List.cons.injEq, and_true] at e0
    simp only [kyC, List.cons.injEq, and_true] at ek
    simp only [adC, adr, List.cons.injEq, and_true] at ea
    obtain ⟨rfl, rfl⟩ := ek
    obtain ⟨rfl, rfl, rfl, rfl⟩ := ea
    subst e0
    exact ⟨⟨a0, k, a⟩, rfl, in64_wf w0, wk, wa⟩
def IsOps (w : World) (a : Option Addr) (len cap : Nat) (l : List OpR) : Prop := RowsAt w a len cap 7 opL OpOk l
theorem open_ops {a : Option Addr} {len cap : Nat} {d : DataW H} {ps : List MemPlace} (h : DataW.Trod enc Try.prog w base spare held 39 (.slice a len cap) d ps) : ∃ l, IsOps w a len cap l :=
  rows_of Try.underlying39 op_cells (by decide) dec_op h
def IsInts (w : World) (a : Option Addr) (len cap : Nat) (l : List Int) : Prop := RowsAt w a len cap 1 (fun x => [.int .i64 x]) (fun x => -9223372036854775808 ≤ x ∧ x ≤ 9223372036854775807) l
theorem dec_int (n : Nat) (cs : List Value) (x : DataW H × List MemPlace) (h : DataW.trod enc Try.prog w base spare held n 3 cs = some x) : ∃ a : Int, cs = [.int .i64 a] ∧ (-9223372036854775808 ≤ a ∧ a ≤ 9223372036854775807) := by
  obtain ⟨a0, e0, _, w0⟩ := DataW.trod_int Try.underlying3 h
  exact ⟨a0, e0, in64_wf w0⟩
theorem open_introw {a : Option Addr} {len cap : Nat} {d : DataW H} {ps : List MemPlace} (h : DataW.Trod enc Try.prog w base spare held 28 (.slice a len cap) d ps) : ∃ l, IsInts w a len cap l :=
  rows_of Try.underlying28 int_cells (by decide) dec_int h
theorem okWide_arr {P : Program} {w : World} {r : Reach} {base : Nat} {t e : TypeId} {n : Nat} {v : Value} (ht : P.underlying t = some (.array n e)) (h : Value.okWide P w r base t v) : ∃ cs, v = .agg cs ∧ cs.size = P.cellsOf t := by
  simp only [Value.okWide, ht] at h
  obtain ⟨cs, h1, h2, _⟩ := h
  exact ⟨cs, h1, h2⟩
theorem open_key {b0 : Nat} {r : Reach} {v : Value} {d : DataW H} {p : List MemPlace} (hv : Value.okWide Try.prog w r b0 36 v) (h : DataW.Trod enc Try.prog w base spare held 36 v d p) : ∃ k : Ky, v = .agg (kyC k) ∧ KyOk k := by
  obtain ⟨cs, rfl, _⟩ := okWide_struct Try.underlying36 hv
  obtain ⟨fuel, hf⟩ := h
  obtain ⟨k, hk, hok⟩ := dec_key _ _ _ hf
  refine ⟨k, ?_, hok⟩
  have : cs = kyC k := by
    have := congrArg List.toArray hk
    simpa [Value.cells] using this
  rw [this]
theorem open_addr {b0 : Nat} {r : Reach} {v : Value} {d : DataW H} {p : List MemPlace} (hv : Value.okWide Try.prog w r b0 23 v) (h : DataW.Trod enc Try.prog w base spare held 23 v d p) : ∃ a : Ad, v = .agg (adC a) ∧ AdOk a := by
  obtain ⟨cs, rfl, _⟩ := okWide_arr Try.underlying23 hv
  obtain ⟨fuel, hf⟩ := h
  obtain ⟨k, hk, hok⟩ := dec_addr _ _ _ hf
  refine ⟨k, ?_, hok⟩
  have : cs = adC k := by
    have := congrArg List.toArray hk
    simpa [Value.cells] using this
  rw [this]
end
end Go.Proofs.Ytnenmgankgadcaa
