/- Struct parameters, opened. The text between the marks is written by tools/structs.py. -/
import Derived.Test.YtmdgilhjiooalaaLaw
namespace Go.Proofs.Ytmdgilhjiooalaa
open Go.ChangeShapes Go.WideShapes Go.ChangeAt Go.RowKit
set_option linter.unusedVariables false

theorem sized_sub {H : Type} {P : Program} {ts : List TypeId} {ds : List (DataW H)} (h : (DataW.weightsEach P ts ds).all (· ≤ reachBytes) = true) {j : Nat} {t : TypeId} {parts : List (DataW H)} {fs : Array Field}
    (ht : ts[j]? = some t) (hd : ds[j]? = some (.agg parts)) (hu : P.underlying t = some (.struct fs)) : (DataW.weightsEach P (fs.toList.map (·.type)) parts).all (· ≤ reachBytes) = true :=
  List.all_eq_true.2 fun n hn => List.all_eq_true.1 h _ (DataW.weights_mem_each ht hd n (by simp only [DataW.weights, hu]; exact hn))

theorem open_ether {H : Type} {enc : TypeId × Value → H} {w : World} {base b0 : Nat} {spare : Nat → Bool} {held : Bool} {r : Reach} {v : Value} {d : DataW H} {p : List MemPlace}
    (hv : Value.okWide Try.prog w r b0 43 v) (h : DataW.Trod enc Try.prog w base spare held 43 v d p) :
    ∃ (a0 : Int) (a1 : Int) (a2 : Int) (a3 : Int) (a4 : Int) (a5 : Int) (a6 : Int) (a7 : Int) (a8 : Int) (a9 : Int) (a10 : Int) (a11 : Int) (a12 : Int) (a13 : ByteArray), v = .agg #[.int .u8 a0, .int .u8 a1, .int .u8 a2, .int .u8 a3, .int .u8 a4, .int .u8 a5, .int .u8 a6, .int .u8 a7, .int .u8 a8, .int .u8 a9, .int .u8 a10, .int .u8 a11, .int .i64 a12, .string a13] ∧ (Lit.int .u8 a0).wf = true ∧ (Lit.int .u8 a1).wf = true ∧ (Lit.int .u8 a2).wf = true ∧ (Lit.int .u8 a3).wf = true ∧ (Lit.int .u8 a4).wf = true ∧ (Lit.int .u8 a5).wf = true ∧ (Lit.int .u8 a6).wf = true ∧ (Lit.int .u8 a7).wf = true ∧ (Lit.int .u8 a8).wf = true ∧ (Lit.int .u8 a9).wf = true ∧ (Lit.int .u8 a10).wf = true ∧ (Lit.int .u8 a11).wf = true ∧ (Lit.int .i64 a12).wf = true ∧ ∃ parts : List (DataW H), d = .agg parts ∧ parts[3]? = some (.lit (.string a13.data.toList)) := by
  obtain ⟨cs, rfl, hsz⟩ := okWide_struct Try.underlying43 hv
  rw [show Try.prog.cellsOf 43 = 14 from by kernel_rfl] at hsz
  obtain ⟨c0, c1, c2, c3, c4, c5, c6, c7, c8, c9, c10, c11, c12, c13, rfl⟩ : ∃ c0 c1 c2 c3 c4 c5 c6 c7 c8 c9 c10 c11 c12 c13 : Value, cs = #[c0, c1, c2, c3, c4, c5, c6, c7, c8, c9, c10, c11, c12, c13] := by
    obtain ⟨l⟩ := cs
    match l, hsz with
    | [c0, c1, c2, c3, c4, c5, c6, c7, c8, c9, c10, c11, c12, c13], _ => exact ⟨c0, c1, c2, c3, c4, c5, c6, c7, c8, c9, c10, c11, c12, c13, rfl⟩
  obtain ⟨fuel, hf⟩ := h
  obtain ⟨xs, n, _, hx, _, hlen, hg⟩ := DataW.trod_struct Try.underlying43 hf
  simp only [Prod.mk.injEq] at hx
  obtain ⟨x0, x1, x2, x3, rfl⟩ : ∃ x0 x1 x2 x3 : DataW H × List MemPlace, xs = [x0, x1, x2, x3] := by
    match xs, hlen with
    | [x0, x1, x2, x3], _ => exact ⟨x0, x1, x2, x3, rfl⟩
  have g0 := hg 0 _ rfl
  obtain ⟨es0, m0, _, _, _, el0, eg0⟩ := DataW.trod_array Try.underlying41 (show DataW.trod enc Try.prog w base spare held n 41 [c0, c1, c2, c3, c4, c5] = some x0 from g0)
  obtain ⟨u0, hu0⟩ : ∃ u, es0[0]? = some u := ⟨_, List.getElem?_eq_getElem (by rw [el0]; decide)⟩
  obtain ⟨a0, e0, _, w0⟩ := DataW.trod_int Try.underlying5 (show DataW.trod enc Try.prog w base spare held m0 5 [c0] = some u0 from (eg0 0 (by decide)).trans hu0)
  obtain ⟨u1, hu1⟩ : ∃ u, es0[1]? = some u := ⟨_, List.getElem?_eq_getElem (by rw [el0]; decide)⟩
  obtain ⟨a1, e1, _, w1⟩ := DataW.trod_int Try.underlying5 (show DataW.trod enc Try.prog w base spare held m0 5 [c1] = some u1 from (eg0 1 (by decide)).trans hu1)
  obtain ⟨u2, hu2⟩ : ∃ u, es0[2]? = some u := ⟨_, List.getElem?_eq_getElem (by rw [el0]; decide)⟩
  obtain ⟨a2, e2, _, w2⟩ := DataW.trod_int Try.underlying5 (show DataW.trod enc Try.prog w base spare held m0 5 [c2] = some u2 from (eg0 2 (by decide)).trans hu2)
  obtain ⟨u3, hu3⟩ : ∃ u, es0[3]? = some u := ⟨_, List.getElem?_eq_getElem (by rw [el0]; decide)⟩
  obtain ⟨a3, e3, _, w3⟩ := DataW.trod_int Try.underlying5 (show DataW.trod enc Try.prog w base spare held m0 5 [c3] = some u3 from (eg0 3 (by decide)).trans hu3)
  obtain ⟨u4, hu4⟩ : ∃ u, es0[4]? = some u := ⟨_, List.getElem?_eq_getElem (by rw [el0]; decide)⟩
  obtain ⟨a4, e4, _, w4⟩ := DataW.trod_int Try.underlying5 (show DataW.trod enc Try.prog w base spare held m0 5 [c4] = some u4 from (eg0 4 (by decide)).trans hu4)
  obtain ⟨u5, hu5⟩ : ∃ u, es0[5]? = some u := ⟨_, List.getElem?_eq_getElem (by rw [el0]; decide)⟩
  obtain ⟨a5, e5, _, w5⟩ := DataW.trod_int Try.underlying5 (show DataW.trod enc Try.prog w base spare held m0 5 [c5] = some u5 from (eg0 5 (by decide)).trans hu5)
  have g1 := hg 1 _ rfl
  obtain ⟨es1, m1, _, _, _, el1, eg1⟩ := DataW.trod_array Try.underlying41 (show DataW.trod enc Try.prog w base spare held n 41 [c6, c7, c8, c9, c10, c11] = some x1 from g1)
  obtain ⟨u6, hu6⟩ : ∃ u, es1[0]? = some u := ⟨_, List.getElem?_eq_getElem (by rw [el1]; decide)⟩
  obtain ⟨a6, e6, _, w6⟩ := DataW.trod_int Try.underlying5 (show DataW.trod enc Try.prog w base spare held m1 5 [c6] = some u6 from (eg1 0 (by decide)).trans hu6)
  obtain ⟨u7, hu7⟩ : ∃ u, es1[1]? = some u := ⟨_, List.getElem?_eq_getElem (by rw [el1]; decide)⟩
  obtain ⟨a7, e7, _, w7⟩ := DataW.trod_int Try.underlying5 (show DataW.trod enc Try.prog w base spare held m1 5 [c7] = some u7 from (eg1 1 (by decide)).trans hu7)
  obtain ⟨u8, hu8⟩ : ∃ u, es1[2]? = some u := ⟨_, List.getElem?_eq_getElem (by rw [el1]; decide)⟩
  obtain ⟨a8, e8, _, w8⟩ := DataW.trod_int Try.underlying5 (show DataW.trod enc Try.prog w base spare held m1 5 [c8] = some u8 from (eg1 2 (by decide)).trans hu8)
  obtain ⟨u9, hu9⟩ : ∃ u, es1[3]? = some u := ⟨_, List.getElem?_eq_getElem (by rw [el1]; decide)⟩
  obtain ⟨a9, e9, _, w9⟩ := DataW.trod_int Try.underlying5 (show DataW.trod enc Try.prog w base spare held m1 5 [c9] = some u9 from (eg1 3 (by decide)).trans hu9)
  obtain ⟨u10, hu10⟩ : ∃ u, es1[4]? = some u := ⟨_, List.getElem?_eq_getElem (by rw [el1]; decide)⟩
  obtain ⟨a10, e10, _, w10⟩ := DataW.trod_int Try.underlying5 (show DataW.trod enc Try.prog w base spare held m1 5 [c10] = some u10 from (eg1 4 (by decide)).trans hu10)
  obtain ⟨u11, hu11⟩ : ∃ u, es1[5]? = some u := ⟨_, List.getElem?_eq_getElem (by rw [el1]; decide)⟩
  obtain ⟨a11, e11, _, w11⟩ := DataW.trod_int Try.underlying5 (show DataW.trod enc Try.prog w base spare held m1 5 [c11] = some u11 from (eg1 5 (by decide)).trans hu11)
  have g2 := hg 2 _ rfl
  obtain ⟨a12, e12, _, w12⟩ := DataW.trod_int Try.underlying3 (show DataW.trod enc Try.prog w base spare held n 3 [c12] = some x2 from g2)
  have g3 := hg 3 _ rfl
  obtain ⟨a13, e13, z13, _⟩ := DataW.trod_string Try.underlying9 (show DataW.trod enc Try.prog w base spare held n 9 [c13] = some x3 from g3)
  simp only [List.cons.injEq, and_true] at e0 e1 e2 e3 e4 e5 e6 e7 e8 e9 e10 e11 e12 e13
  subst e0 e1 e2 e3 e4 e5 e6 e7 e8 e9 e10 e11 e12 e13
  subst z13
  exact ⟨a0, a1, a2, a3, a4, a5, a6, a7, a8, a9, a10, a11, a12, a13, rfl, w0, w1, w2, w3, w4, w5, w6, w7, w8, w9, w10, w11, w12, _, hx.1, rfl⟩

theorem open_gram {H : Type} {enc : TypeId × Value → H} {w : World} {base b0 : Nat} {spare : Nat → Bool} {held : Bool} {r : Reach} {v : Value} {d : DataW H} {p : List MemPlace}
    (hv : Value.okWide Try.prog w r b0 45 v) (h : DataW.Trod enc Try.prog w base spare held 45 v d p) :
    ∃ (a0 : Int) (a1 : Int) (a2 : ByteArray), v = .agg #[.int .i64 a0, .int .i64 a1, .string a2] ∧ (Lit.int .i64 a0).wf = true ∧ (Lit.int .i64 a1).wf = true ∧ ∃ parts : List (DataW H), d = .agg parts ∧ parts[2]? = some (.lit (.string a2.data.toList)) := by
  obtain ⟨cs, rfl, hsz⟩ := okWide_struct Try.underlying45 hv
  rw [show Try.prog.cellsOf 45 = 3 from by kernel_rfl] at hsz
  obtain ⟨c0, c1, c2, rfl⟩ : ∃ c0 c1 c2 : Value, cs = #[c0, c1, c2] := by
    obtain ⟨l⟩ := cs
    match l, hsz with
    | [c0, c1, c2], _ => exact ⟨c0, c1, c2, rfl⟩
  obtain ⟨fuel, hf⟩ := h
  obtain ⟨xs, n, _, hx, _, hlen, hg⟩ := DataW.trod_struct Try.underlying45 hf
  simp only [Prod.mk.injEq] at hx
  obtain ⟨x0, x1, x2, rfl⟩ : ∃ x0 x1 x2 : DataW H × List MemPlace, xs = [x0, x1, x2] := by
    match xs, hlen with
    | [x0, x1, x2], _ => exact ⟨x0, x1, x2, rfl⟩
  have g0 := hg 0 _ rfl
  obtain ⟨a0, e0, _, w0⟩ := DataW.trod_int Try.underlying3 (show DataW.trod enc Try.prog w base spare held n 3 [c0] = some x0 from g0)
  have g1 := hg 1 _ rfl
  obtain ⟨a1, e1, _, w1⟩ := DataW.trod_int Try.underlying3 (show DataW.trod enc Try.prog w base spare held n 3 [c1] = some x1 from g1)
  have g2 := hg 2 _ rfl
  obtain ⟨a2, e2, z2, _⟩ := DataW.trod_string Try.underlying9 (show DataW.trod enc Try.prog w base spare held n 9 [c2] = some x2 from g2)
  simp only [List.cons.injEq, and_true] at e0 e1 e2
  subst e0 e1 e2
  subst z2
  exact ⟨a0, a1, a2, rfl, w0, w1, _, hx.1, rfl⟩

end Go.Proofs.Ytmdgilhjiooalaa
