/- ac: the keys of its maps. -/
import Derived.Test.YtcdencpkgfehlaaTagI
import Derived.Test.YtcdencpkgfehlaaMgA
import Derived.Test.YtcdencpkgfehlaaEqEth
namespace Go.Proofs.Ytcdencpkgfehlaa
open Go.RowKit Go.Maps
set_option linter.unusedVariables false
instance : DecidableEq Mc := fun x y => decidable_of_iff (mcEq x y = true) (mcEq_iff x y)
def b8 (x : Int) : Prop := 0 ≤ x ∧ x ≤ 255
def McOk (m : Mc) : Prop := b8 m.a ∧ b8 m.b ∧ b8 m.c ∧ b8 m.d ∧ b8 m.e ∧ b8 m.f
def In64 (x : Int) : Prop := -9223372036854775808 ≤ x ∧ x ≤ 9223372036854775807
abbrev Idk := Mc × Int
def idL (k : Idk) : List Value := mcL k.1 ++ [.int .i64 k.2]
def idC (k : Idk) : Array Value := (idL k).toArray
def IdOk (k : Idk) : Prop := McOk k.1 ∧ In64 k.2
theorem types_three : ∃ d, Try.prog.types.size = d + 3 := ⟨Try.prog.types.size - 3, by have : 3 ≤ Try.prog.types.size := of_decide_eq_true (by kernel_rfl); omega⟩
theorem id_law : Keyed Try.prog 61 :=
  Keyed.of_law (deep_law_laid laidOut (m := 4) (by decide) (of_decide_eq_true (by kernel_rfl)) (by kernel_rfl) (by kernel_rfl))
theorem int_law : Keyed Try.prog 3 := int_keyed Try.underlying3
theorem id_cells : Try.prog.cellsOf 61 = 7 := by kernel_rfl
theorem macK_cells : Try.prog.cellsOf 28 = 6 := by kernel_rfl
theorem int_cells : Try.prog.cellsOf 3 = 1 := by kernel_rfl
theorem u8_cells : Try.prog.cellsOf 5 = 1 := by kernel_rfl
theorem id_keyType : Try.prog.keyType 61 = true := by kernel_rfl
theorem int_keyType : Try.prog.keyType 3 = true := by kernel_rfl
theorem wf64 (a : Int) (h : In64 a) : (Lit.int .i64 a).wf = true := by unfold In64 at h; simpa [Lit.wf, IntKind.min, IntKind.max, IntKind.signed, IntKind.bits] using h
theorem wf8 (a : Int) (h : b8 a) : (Lit.int .u8 a).wf = true := by
  unfold b8 at h
  simpa [Lit.wf, IntKind.min, IntKind.max, IntKind.signed, IntKind.bits] using h
theorem int_ok (x : Int) (h : In64 x) : ∃ kl, keyOf Try.prog 3 (.int .i64 x) = some kl := by
  have hs := Try.underlying3
  unfold keyOf
  rw [hs]
  simp [mapKey, hs, wf64 x h]
theorem id_ok (k : Idk) (h : IdOk k) : ∃ kl, keyOf Try.prog 61 (.agg (idC k)) = some kl := by
  have hu := Try.underlying61
  have hm := Try.underlying28
  have hs := Try.underlying3
  have h8 := Try.underlying5
  obtain ⟨d, hd⟩ := types_three
  have hf : Value.formed Try.prog 61 (.agg (idC k)) = true := by
    unfold Value.formed
    rw [hu]
    show ((idC k).size == Try.prog.cellsOf 61) = true
    rw [id_cells]; rfl
  have hk8 : ∀ a : Int, b8 a → Try.prog.keyLits (d + 2) 5 [.int .u8 a] = some [.int .u8 a] := fun a ha => by
    unfold Program.keyLits
    rw [h8]
    simp [wf8 a ha]
  have hk6 : Try.prog.keyLits (d + 3) 28 (mcL k.1) = some [.int .u8 k.1.a, .int .u8 k.1.b, .int .u8 k.1.c, .int .u8 k.1.d, .int .u8 k.1.e, .int .u8 k.1.f] := by
    unfold Program.keyLits
    rw [hm]
    simp [mcL, macK_cells, u8_cells, List.range_succ, hk8 _ h.1.1, hk8 _ h.1.2.1, hk8 _ h.1.2.2.1, hk8 _ h.1.2.2.2.1, hk8 _ h.1.2.2.2.2.1, hk8 _ h.1.2.2.2.2.2]
  have hk1 : Try.prog.keyLits (d + 3) 3 [.int .i64 k.2] = some [.int .i64 k.2] := by
    unfold Program.keyLits
    rw [hs]
    simp [wf64 _ h.2]
  unfold mcL at hk6
  unfold keyOf
  rw [hu]
  simp only [id_keyType, hf, Bool.and_self, if_true, hd]
  unfold Program.keyLits
  rw [hu]
  simp [Value.cells, idC, idL, mcL, id_cells, macK_cells, int_cells, hk6, hk1]
def idE : KeyEnc Try.prog 61 Idk where
  law := id_law
  ek k := .agg (idC k)
  V := IdOk
  ok := id_ok
  inj x y h := by
    obtain ⟨⟨a, b, c, d, e, f⟩, s⟩ := x
    obtain ⟨⟨a', b', c', d', e', f'⟩, s'⟩ := y
    simp only [idC, idL, mcL, List.cons_append, List.nil_append, Value.agg.injEq, Array.mk.injEq, List.cons.injEq, Value.int.injEq, and_true, true_and] at h
    obtain ⟨rfl, rfl, rfl, rfl, rfl, rfl, rfl⟩ := h
    rfl
def intE : KeyEnc Try.prog 3 Int where
  law := int_law
  ek x := .int .i64 x
  V := In64
  ok := int_ok
  inj x y h := by simpa using h
end Go.Proofs.Ytcdencpkgfehlaa
