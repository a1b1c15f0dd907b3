/- The mixing of a step. -/
import Derived.Test.YtfchbppfbepelaaGreatDgLaw
import Derived.Laws.BitsAllLaws
namespace Go.Proofs.YtfchbppfbepelaaGreat
open Go.RowKit
set_option linter.unusedVariables false

def orA (b c d : Int) : Int := bits .or .u32 (bits .and .u32 b c) (bits .and .u32 (bits .xor .u32 IntKind.u32.max b) d)
def orB (b c d : Int) : Int := bits .or .u32 (bits .and .u32 b d) (bits .andNot .u32 c d)
def orC (b c d : Int) : Int := bits .xor .u32 (bits .xor .u32 b c) d
def orD (b c d : Int) : Int := bits .xor .u32 c (bits .or .u32 b (bits .xor .u32 IntKind.u32.max d))
theorem rtup {a b : Value} {x : Int} {y : Int} {k k' : IntKind} (h1 : a = .int k x) (h2 : b = .int k' y) : Ending.returned (.tuple #[a, b]) = .returned (.tuple #[.int k x, .int k' y]) := by rw [h1, h2]

theorem mix_0 (i b c d : Int) (w : World) (i0 : 0 ≤ i) (i1 : i < 16) :
    Calls Tryz.prog 349 #[.int .i64 i, .int .u32 b, .int .u32 c, .int .u32 d] w fun e w' => e = .returned (.tuple #[.int .u32 (orA b c d), .int .i64 i]) ∧ w = w' := by
  have hq : (i / 16 == 0) = true := by rw [beq_iff_eq]; omega
  go_enter Tryz.func349, Tryz.ntmps349
  go_wp2
  all_goals
    go_ret2
    exact ⟨rfl, rfl⟩
theorem mix_1 (i b c d : Int) (w : World) (i0 : 16 ≤ i) (i1 : i < 32) :
    Calls Tryz.prog 349 #[.int .i64 i, .int .u32 b, .int .u32 c, .int .u32 d] w fun e w' => e = .returned (.tuple #[.int .u32 (orB b c d), .int .i64 ((5 * i + 1) % 16)]) ∧ w = w' := by
  have hq : (i / 16 == 0) = false := by rw [beq_eq_false_iff_ne]; omega
  have hq1 : (i / 16 == 1) = true := by rw [beq_iff_eq]; omega
  go_enter Tryz.func349, Tryz.ntmps349
  go_wp2
  all_goals
    go_ret2
    exact ⟨rfl, rfl⟩
theorem mix_2 (i b c d : Int) (w : World) (i0 : 32 ≤ i) (i1 : i < 48) :
    Calls Tryz.prog 349 #[.int .i64 i, .int .u32 b, .int .u32 c, .int .u32 d] w fun e w' => e = .returned (.tuple #[.int .u32 (orC b c d), .int .i64 ((3 * i + 5) % 16)]) ∧ w = w' := by
  have hq : (i / 16 == 0) = false := by rw [beq_eq_false_iff_ne]; omega
  have hq1 : (i / 16 == 1) = false := by rw [beq_eq_false_iff_ne]; omega
  have hq2 : (i / 16 == 2) = true := by rw [beq_iff_eq]; omega
  go_enter Tryz.func349, Tryz.ntmps349
  go_wp2
  all_goals
    go_ret2
    exact ⟨rfl, rfl⟩
theorem mix_3 (i b c d : Int) (w : World) (i0 : 48 ≤ i) (i1 : i < 64) :
    Calls Tryz.prog 349 #[.int .i64 i, .int .u32 b, .int .u32 c, .int .u32 d] w fun e w' => e = .returned (.tuple #[.int .u32 (orD b c d), .int .i64 (7 * i % 16)]) ∧ w = w' := by
  have hq : (i / 16 == 0) = false := by rw [beq_eq_false_iff_ne]; omega
  have hq1 : (i / 16 == 1) = false := by rw [beq_eq_false_iff_ne]; omega
  have hq2 : (i / 16 == 2) = false := by rw [beq_eq_false_iff_ne]; omega
  go_enter Tryz.func349, Tryz.ntmps349
  go_wp2
  all_goals
    go_ret2
    exact ⟨rfl, rfl⟩

theorem not32_eq (x : Nat) (h : x < 4294967296) : 4294967295 ^^^ x = not32 x := by
  have e : 2 ^ 32 - 1 ^^^ x = 2 ^ 32 - (x + 1) := by
    apply Nat.eq_of_testBit_eq
    intro i
    rw [Nat.testBit_xor, Nat.testBit_two_pow_sub_one, Nat.testBit_two_pow_sub_succ (by simpa using h)]
    by_cases hi : i < 32
    · simp [hi]
    · have : x.testBit i = false := Nat.testBit_lt_two_pow (Nat.lt_of_lt_of_le h (Nat.pow_le_pow_right (n := 2) (by omega) (show 32 ≤ i by omega)))
      simp [hi, this]
  simp only [Nat.reducePow, Nat.reduceSub] at e
  unfold not32
  omega
theorem not32_lt (x : Nat) : not32 x < 4294967296 := by unfold not32; omega
theorem u32_not (x : Nat) (h : x < 4294967296) : bits .xor .u32 IntKind.u32.max (x : Int) = (not32 x : Nat) := by
  rw [← not32_eq x h]
  exact u32_xor_nat 4294967295 x (by omega) h
theorem and32 {a b : Nat} (hb : b < 4294967296) : a &&& b < 4294967296 := Nat.and_lt_two_pow (n := 32) _ hb
theorem or32 {a b : Nat} (ha : a < 4294967296) (hb : b < 4294967296) : a ||| b < 4294967296 := Nat.or_lt_two_pow (n := 32) ha hb
theorem xor32 {a b : Nat} (ha : a < 4294967296) (hb : b < 4294967296) : a ^^^ b < 4294967296 := Nat.xor_lt_two_pow (n := 32) ha hb

def mixI (i : Nat) (b c d : Int) : Int := ((mixF i b.toNat c.toNat d.toNat : Nat) : Int)
theorem mixI_bd (i : Nat) (b c d : Int) (b0 : 0 ≤ b) (b1 : b < 4294967296) (c0 : 0 ≤ c) (c1 : c < 4294967296) (d0 : 0 ≤ d) (d1 : d < 4294967296) : 0 ≤ mixI i b c d ∧ mixI i b c d < 4294967296 := by
  have := mixF_lt i (b := b.toNat) (c := c.toNat) (d := d.toNat) (by omega) (by omega) (by omega)
  unfold mixI; omega
theorem mix_any (i : Nat) (b c d : Int) (w : World) (hi : i < 64) (b0 : 0 ≤ b) (b1 : b < 4294967296) (c0 : 0 ≤ c) (c1 : c < 4294967296) (d0 : 0 ≤ d) (d1 : d < 4294967296) :
    Calls Tryz.prog 349 #[.int .i64 i, .int .u32 b, .int .u32 c, .int .u32 d] w fun e w' => e = .returned (.tuple #[.int .u32 (mixI i b c d), .int .i64 (mixK i : Nat)]) ∧ w = w' := by
  obtain ⟨b, rfl⟩ : ∃ k : Nat, b = k := ⟨b.toNat, by omega⟩
  obtain ⟨c, rfl⟩ : ∃ k : Nat, c = k := ⟨c.toNat, by omega⟩
  obtain ⟨d, rfl⟩ : ∃ k : Nat, d = k := ⟨d.toNat, by omega⟩
  have b1 : b < 4294967296 := by omega
  have c1 : c < 4294967296 := by omega
  have d1 : d < 4294967296 := by omega
  unfold mixI mixF mixK
  rw [Int.toNat_natCast, Int.toNat_natCast, Int.toNat_natCast]
  by_cases h0 : i < 16
  · rw [if_pos h0, if_pos h0]
    refine (mix_0 i b c d w (by omega) (by omega)).mono ?_
    rintro e w' ⟨rfl, rfl⟩
    refine ⟨rtup ?_ rfl, rfl⟩
    unfold orA
    rw [u32_not b b1, u32_and_nat b c b1 c1, u32_and_nat _ d (not32_lt b) d1, u32_or_nat _ _ (and32 c1) (and32 d1)]
  · rw [if_neg h0, if_neg h0]
    by_cases h1 : i < 32
    · rw [if_pos h1, if_pos h1]
      refine (mix_1 i b c d w (by omega) (by omega)).mono ?_
      rintro e w' ⟨rfl, rfl⟩
      refine ⟨rtup ?_ (by congr 1), rfl⟩
      unfold orB
      rw [u32_and_nat b d b1 d1, u32_andNot_nat c d c1 d1]
      exact congrArg _ (u32_or_nat (b &&& d) (c &&& not32 d) (and32 d1) (and32 (not32_lt d)))
    · rw [if_neg h1, if_neg h1]
      by_cases h2 : i < 48
      · rw [if_pos h2, if_pos h2]
        refine (mix_2 i b c d w (by omega) (by omega)).mono ?_
        rintro e w' ⟨rfl, rfl⟩
        refine ⟨rtup ?_ (by congr 1), rfl⟩
        unfold orC
        rw [u32_xor_nat b c b1 c1, u32_xor_nat _ d (xor32 b1 c1) d1]
      · rw [if_neg h2, if_neg h2]
        refine (mix_3 i b c d w (by omega) (by omega)).mono ?_
        rintro e w' ⟨rfl, rfl⟩
        refine ⟨rtup ?_ (by congr 1), rfl⟩
        unfold orD
        rw [u32_not d d1, u32_or_nat b _ b1 (not32_lt d), u32_xor_nat c _ c1 (or32 b1 (not32_lt d))]
end Go.Proofs.YtfchbppfbepelaaGreat
