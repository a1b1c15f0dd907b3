/- Structs of a whole number and a text, compared with themselves. -/
import Derived.Test.YtfchbppfbepelaaGreatStr
import Derived.ChangeKeysEq
namespace Go.Proofs.YtfchbppfbepelaaGreat
open Go.RowKit
set_option linter.unusedVariables false
theorem eq_is (t : TypeId) (ht : Tryz.prog.underlying t = some (.struct (Tryz.prog.fieldsOf t))) (hp : Tryz.prog.stoodInHeld t = false)
    (hF : ((Tryz.prog.fieldsOf t).toList.map fun f => (decide (f.name ≠ "_"), f.type, f.offset)) = [(true, 3, 0), (true, 9, 1)])
    (a : Int) (s : List UInt8) (w : World) : (Op.equalIn 10000 t (.agg #[.int .i64 a, .string (B s)]) (.agg #[.int .i64 a, .string (B s)])).run Tryz.prog w = .ok true w := by
  rw [run_equalIn_agg w 9999 t _ _ ht hp]
  generalize (Tryz.prog.fieldsOf t).toList = fs at hF ⊢
  have hlen : fs.length = 2 := by have := congrArg List.length hF; simpa using this
  obtain ⟨f, g, rfl⟩ : ∃ f g, fs = [f, g] := by
    cases fs with
    | nil => simp at hlen
    | cons f r =>
      cases r with
      | nil => simp at hlen
      | cons g r =>
        cases r with
        | nil => exact ⟨f, g, rfl⟩
        | cons h r => simp at hlen
  simp only [List.map_cons, List.map_nil, List.cons.injEq, Prod.mk.injEq, decide_eq_true_eq, and_true] at hF
  obtain ⟨⟨h1, h2, h3⟩, h4, h5, h6⟩ := hF
  have p1 : (part 3 #[.int .i64 a, .string (B s)] 0).run Tryz.prog w = .ok (.int .i64 a) w := run_part_plain (P := Tryz.prog) w (by kernel_rfl) rfl
  have p2 : (part 9 #[.int .i64 a, .string (B s)] 1).run Tryz.prog w = .ok (.string (B s)) w := run_part_plain (P := Tryz.prog) w (by kernel_rfl) rfl
  have q1 : (Op.equalIn 9999 3 (.int .i64 a) (.int .i64 a)).run Tryz.prog w = .ok true w := by
    have := run_equalIn_int (P := Tryz.prog) w 9998 3 .i64 .i64 a a Tryz.underlying3
    simpa using this
  have q2 : (Op.equalIn 9999 9 (.string (B s)) (.string (B s))).run Tryz.prog w = .ok true w := by
    have := run_equalIn_string (P := Tryz.prog) w 9998 9 (B s) (B s) Tryz.underlying9
    simpa using this
  simp only [Op.eqFields, h1, h2, h3, h4, h5, h6, ne_eq, not_false_eq_true, if_true, Sem.run_bind, p1, p2, q1, q2, Result.andThen_ok]
  simp [Result.andThen, p2, q2]
end Go.Proofs.YtfchbppfbepelaaGreat
