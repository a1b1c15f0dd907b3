/- a map keyed by names and realms. -/
import Derived.Test.YtpljdnocdhppmaaMapKit
import Derived.Test.YtpljdnocdhppmaaStore1
import Derived.Test.YtpljdnocdhppmaaLaw
namespace Go.Proofs.Ytpljdnocdhppmaa
open Go.RowKit Go.Maps
set_option linter.unusedVariables false

abbrev Who := List UInt8 × List UInt8
theorem who_law : Keyed Try.prog 24 :=
  Keyed.of_law (deep_law_laid laidOut (m := 3) (by decide) (of_decide_eq_true (by kernel_rfl)) (by kernel_rfl) (by kernel_rfl))
theorem who_cells : Try.prog.cellsOf 24 = 2 := by kernel_rfl
theorem str_cells : Try.prog.cellsOf 9 = 1 := by kernel_rfl
theorem who_keyType : Try.prog.keyType 24 = true := by kernel_rfl
theorem types_succ : ∃ d, Try.prog.types.size = d + 1 := ⟨Try.prog.types.size - 1, by have : 0 < Try.prog.types.size := of_decide_eq_true (by kernel_rfl); omega⟩
theorem who_ok (a b : List UInt8) (ha : a.length ≤ maxLen) (hb : b.length ≤ maxLen) : ∃ kl, keyOf Try.prog 24 (.agg (whoC a b)) = some kl := by
  have hu := Try.underlying24
  have hs := Try.underlying9
  obtain ⟨d, hd⟩ := types_succ
  have hf : Value.formed Try.prog 24 (.agg (whoC a b)) = true := by
    unfold Value.formed
    rw [hu]
    show ((whoC a b).size == Try.prog.cellsOf 24) = true
    rw [who_cells]; rfl
  have hk1 : ∀ l : List UInt8, l.length ≤ maxLen → Try.prog.keyLits (d + 1) 9 [.string (B l)] = some [.string l] := fun l hl => by
    unfold Program.keyLits
    rw [hs]
    simp [B_size, hl, B_data]
  unfold keyOf
  rw [hu]
  simp only [who_keyType, hf, Bool.and_self, if_true, hd]
  unfold Program.keyLits
  rw [hu]
  simp [Value.cells, whoC, who_cells, str_cells, hk1 a ha, hk1 b hb]
def whoE : KeyEnc Try.prog 24 Who where
  law := who_law
  ek x := .agg (whoC x.1 x.2)
  V x := x.1.length ≤ maxLen ∧ x.2.length ≤ maxLen
  ok x h := who_ok x.1 x.2 h.1 h.2
  inj x y h := by
    simp only [whoC, Value.agg.injEq, Array.mk.injEq, List.cons.injEq, Value.string.injEq, and_true] at h
    exact Prod.ext (B_inj.1 h.1) (B_inj.1 h.2)
end Go.Proofs.Ytpljdnocdhppmaa
