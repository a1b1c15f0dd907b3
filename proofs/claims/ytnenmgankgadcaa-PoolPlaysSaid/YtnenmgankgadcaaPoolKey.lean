/- maps keyed by pool.Key and by addresses. -/
import Derived.Test.YtnenmgankgadcaaMapKit2
import Derived.Test.YtnenmgankgadcaaPool1
import Derived.Test.YtnenmgankgadcaaLaw
namespace Go.Proofs.Ytnenmgankgadcaa
open Go.RowKit Go.Maps
set_option linter.unusedVariables false

abbrev Ky := Int × Int
abbrev Ad := Int × Int × Int × Int
def kyC (k : Ky) : Array Value := #[.int .i64 k.1, .int .i64 k.2]
def adC (x : Ad) : Array Value := adr x.1 x.2.1 x.2.2.1 x.2.2.2
def KyOk (k : Ky) : Prop := (-9223372036854775808 ≤ k.1 ∧ k.1 ≤ 9223372036854775807) ∧ (-9223372036854775808 ≤ k.2 ∧ k.2 ≤ 9223372036854775807)
def AdOk (x : Ad) : Prop := u8 x.1 ∧ u8 x.2.1 ∧ u8 x.2.2.1 ∧ u8 x.2.2.2
theorem types_succ : ∃ d, Try.prog.types.size = d + 1 := ⟨Try.prog.types.size - 1, by have : 0 < Try.prog.types.size := of_decide_eq_true (by kernel_rfl); omega⟩
theorem ky_law : Keyed Try.prog 36 :=
  Keyed.of_law (deep_law_laid laidOut (m := 3) (by decide) (of_decide_eq_true (by kernel_rfl)) (by kernel_rfl) (by kernel_rfl))
theorem ad_law : Keyed Try.prog 23 :=
  Keyed.of_law (deep_law_laid laidOut (m := 3) (by decide) (of_decide_eq_true (by kernel_rfl)) (by kernel_rfl) (by kernel_rfl))
theorem ky_cells : Try.prog.cellsOf 36 = 2 := by kernel_rfl
theorem ad_cells : Try.prog.cellsOf 23 = 4 := by kernel_rfl
theorem int_cells : Try.prog.cellsOf 3 = 1 := by kernel_rfl
theorem u8_cells : Try.prog.cellsOf 5 = 1 := by kernel_rfl
theorem ky_keyType : Try.prog.keyType 36 = true := by kernel_rfl
theorem ad_keyType : Try.prog.keyType 23 = true := by kernel_rfl
theorem wf64 (a : Int) (h : -9223372036854775808 ≤ a ∧ a ≤ 9223372036854775807) : (Lit.int .i64 a).wf = true := by simpa [Lit.wf, IntKind.min, IntKind.max, IntKind.signed, IntKind.bits] using h
theorem wf8 (a : Int) (h : u8 a) : (Lit.int .u8 a).wf = true := by
  unfold u8 at h
  have : 0 ≤ a ∧ a ≤ 255 := by omega
  simpa [Lit.wf, IntKind.min, IntKind.max, IntKind.signed, IntKind.bits] using this
theorem ky_ok (k : Ky) (h : KyOk k) : ∃ kl, keyOf Try.prog 36 (.agg (kyC k)) = some kl := by
  have hu := Try.underlying36
  have hs := Try.underlying3
  obtain ⟨d, hd⟩ := types_succ
  have hf : Value.formed Try.prog 36 (.agg (kyC k)) = true := by
    unfold Value.formed
    rw [hu]
    show ((kyC k).size == Try.prog.cellsOf 36) = true
    rw [ky_cells]; rfl
  have hk1 : ∀ a : Int, (-9223372036854775808 ≤ a ∧ a ≤ 9223372036854775807) → Try.prog.keyLits (d + 1) 3 [.int .i64 a] = some [.int .i64 a] := fun a ha => by
    unfold Program.keyLits
    rw [hs]
    simp [wf64 a ha]
  unfold keyOf
  rw [hu]
  simp only [ky_keyType, hf, Bool.and_self, if_true, hd]
  unfold Program.keyLits
  rw [hu]
  simp [Value.cells, kyC, ky_cells, int_cells, hk1 k.1 h.1, hk1 k.2 h.2]
theorem ad_ok (x : Ad) (h : AdOk x) : ∃ kl, keyOf Try.prog 23 (.agg (adC x)) = some kl := by
  have hu := Try.underlying23
  have hs := Try.underlying5
  obtain ⟨d, hd⟩ := types_succ
  have hf : Value.formed Try.prog 23 (.agg (adC x)) = true := by
    unfold Value.formed
    rw [hu]
    show ((adC x).size == Try.prog.cellsOf 23) = true
    rw [ad_cells]; rfl
  have hk1 : ∀ a : Int, u8 a → Try.prog.keyLits (d + 1) 5 [.int .u8 a] = some [.int .u8 a] := fun a ha => by
    unfold Program.keyLits
    rw [hs]
    simp [wf8 a ha]
  unfold keyOf
  rw [hu]
  simp only [ad_keyType, hf, Bool.and_self, if_true, hd]
  unfold Program.keyLits
  rw [hu]
  simp [Value.cells, adC, adr, ad_cells, u8_cells, List.range_succ, hk1 _ h.1, hk1 _ h.2.1, hk1 _ h.2.2.1, hk1 _ h.2.2.2]
def kyE : KeyEnc Try.prog 36 Ky where
  law := ky_law
  ek k := .agg (kyC k)
  V := KyOk
  ok := ky_ok
  inj x y h := by
    simp only [kyC, Value.agg.injEq, Array.mk.injEq, List.cons.injEq, Value.int.injEq, and_true, true_and] at h
    exact Prod.ext h.1 h.2
def adE : KeyEnc Try.prog 23 Ad where
  law := ad_law
  ek x := .agg (adC x)
  V := AdOk
  ok := ad_ok
  inj x y h := by
    obtain ⟨a, b, c, d⟩ := x
    obtain ⟨a', b', c', d'⟩ := y
    simp only [adC, adr, Value.agg.injEq, Array.mk.injEq, List.cons.injEq, Value.int.injEq, and_true, true_and] at h
    obtain ⟨rfl, rfl, rfl, rfl⟩ := h
    rfl
/-- a number as an address -/
def adq (x : Int) : Ad := (x / 16777216 % 256, x / 65536 % 256, x / 256 % 256, x % 256)
theorem adC_adq (x : Int) : adC (adq x) = adrN x := rfl
theorem adq_ok (x : Int) : AdOk (adq x) := by
  unfold AdOk adq u8
  simp only
  omega
theorem adq_inj {x y : Int} (hx : 0 ≤ x ∧ x < 4294967296) (hy : 0 ≤ y ∧ y < 4294967296) (h : adq x = adq y) : x = y := by
  unfold adq at h
  simp only [Prod.mk.injEq] at h
  omega
theorem adq_num {x : Ad} (h : AdOk x) : adq (num4 x.1 x.2.1 x.2.2.1 x.2.2.2) = x := by
  obtain ⟨a, b, c, d⟩ := x
  obtain ⟨ha, hb, hc, hd⟩ := h
  unfold u8 at *
  simp only at *
  unfold adq num4
  simp only [Prod.mk.injEq]
  omega
end Go.Proofs.Ytnenmgankgadcaa
