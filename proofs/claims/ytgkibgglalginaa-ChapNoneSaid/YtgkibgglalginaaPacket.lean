/- api.Packet as a parameter, opened (printed by tools/structs.py). -/
import Derived.Test.YtgkibgglalginaaLaw
import Derived.ChangeArms
namespace Go.Proofs.Ytgkibgglalginaa
open Go.ChangeShapes Go.WideShapes Go.ChangeAt Go.RowKit
set_option linter.unusedVariables false
theorem sized_sub {H : Type} {P : Program} {ts : List TypeId} {ds : List (DataW H)} (h : (DataW.weightsEach P ts ds).all (· ≤ reachBytes) = true) {j : Nat} {t : TypeId} {parts : List (DataW H)} {fs : Array Field}
    (ht : ts[j]? = some t) (hd : ds[j]? = some (.agg parts)) (hu : P.underlying t = some (.struct fs)) : (DataW.weightsEach P (fs.toList.map (·.type)) parts).all (· ≤ reachBytes) = true :=
  List.all_eq_true.2 fun n hn => List.all_eq_true.1 h _ (DataW.weights_mem_each ht hd n (by simp only [DataW.weights, hu]; exact hn))
set_option maxRecDepth 100000 in
theorem open_packet {H : Type} {enc : TypeId × Value → H} {w : World} {base b0 : Nat} {spare : Nat → Bool} {held : Bool} {r : Reach} {v : Value} {d : DataW H} {p : List MemPlace}
    (hv : Value.okWide Try.prog w r b0 37 v) (h : DataW.Trod enc Try.prog w base spare held 37 v d p) :
    ∃ (a0 : Int) (a1 : Int) (a2 : Option Addr) (n2 : Nat) (k2 : Nat) (a3 : ByteArray), v = .agg #[.int .i64 a0, .int .i64 a1, .slice a2 n2 k2, .string a3] ∧ (Lit.int .i64 a0).wf = true ∧ (Lit.int .i64 a1).wf = true ∧ ∃ parts : List (DataW H), d = .agg parts ∧ parts[3]? = some (.lit (.string a3.data.toList)) := by
  obtain ⟨cs, rfl, hsz⟩ := okWide_struct Try.underlying37 hv
  rw [show Try.prog.cellsOf 37 = 4 from by kernel_rfl] at hsz
  obtain ⟨c0, c1, c2, c3, rfl⟩ : ∃ c0 c1 c2 c3 : Value, cs = #[c0, c1, c2, c3] := by
    obtain ⟨l⟩ := cs
    match l, hsz with
    | [c0, c1, c2, c3], _ => exact ⟨c0, c1, c2, c3, rfl⟩
  obtain ⟨fuel, hf⟩ := h
  obtain ⟨xs, n, _, hx, _, hlen, hg⟩ := DataW.trod_struct Try.underlying37 hf
  simp only [Prod.mk.injEq] at hx
  obtain ⟨x0, x1, x2, x3, rfl⟩ : ∃ x0 x1 x2 x3 : DataW H × List MemPlace, xs = [x0, x1, x2, x3] := by
    match xs, hlen with
    | [x0, x1, x2, x3], _ => exact ⟨x0, x1, x2, x3, rfl⟩
  have g0 := hg 0 _ rfl
  obtain ⟨a0, e0, _, w0⟩ := DataW.trod_int Try.underlying3 (show DataW.trod enc Try.prog w base spare held n 3 [c0] = some x0 from g0)
  have g1 := hg 1 _ rfl
  obtain ⟨a1, e1, _, w1⟩ := DataW.trod_int Try.underlying3 (show DataW.trod enc Try.prog w base spare held n 3 [c1] = some x1 from g1)
  have g2 := hg 2 _ rfl
  obtain ⟨a2, n2, k2, e2⟩ : ∃ A n k, [c2] = [Value.slice A n k] := by rcases DataW.trod_slice Try.underlying35 (show DataW.trod enc Try.prog w base spare held n 35 [c2] = some x2 from g2) with ⟨h0, _⟩ | ⟨A, l, k, _, _, _, _, h0, _⟩ <;> exact ⟨_, _, _, h0⟩
  have g3 := hg 3 _ rfl
  obtain ⟨a3, e3, z3, _⟩ := DataW.trod_string Try.underlying9 (show DataW.trod enc Try.prog w base spare held n 9 [c3] = some x3 from g3)
  simp only [List.cons.injEq, and_true] at e0 e1 e2 e3
  subst e0 e1 e2 e3
  subst z3
  exact ⟨a0, a1, a2, n2, k2, a3, rfl, w0, w1, _, hx.1, rfl⟩
end Go.Proofs.Ytgkibgglalginaa
