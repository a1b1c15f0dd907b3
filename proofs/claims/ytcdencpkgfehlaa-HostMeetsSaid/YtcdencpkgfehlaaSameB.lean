/- digest.Same alone. -/
import Derived.Test.YtcdencpkgfehlaaMgA
namespace Go.Proofs.Ytcdencpkgfehlaa
open Go.RowKit
set_option linter.unusedVariables false

theorem or_zero_iff (U : Int) (x y : UInt8) (u0 : 0 ≤ U) (u1 : U < 256) :
    0 ≤ bits .or .u8 U (bits .xor .u8 (x.toNat : Int) (y.toNat : Int)) ∧ bits .or .u8 U (bits .xor .u8 (x.toNat : Int) (y.toNat : Int)) < 256 ∧ (bits .or .u8 U (bits .xor .u8 (x.toNat : Int) (y.toNat : Int)) = 0 ↔ U = 0 ∧ x = y) := by
  obtain ⟨u, rfl⟩ : ∃ k : Nat, U = k := ⟨U.toNat, by omega⟩
  have hx := x.toNat_lt
  have hy := y.toNat_lt
  have hxy : x.toNat ^^^ y.toNat < 256 := Nat.xor_lt_two_pow (n := 8) hx hy
  have hu : u < 256 := by omega
  rw [u8_xor_nat _ _ hx hy, u8_or_nat _ _ hu hxy]
  have hor : u ||| (x.toNat ^^^ y.toNat) < 256 := Nat.or_lt_two_pow (n := 8) hu hxy
  refine ⟨by omega, by omega, ?_⟩
  have h0 : (u ||| (x.toNat ^^^ y.toNat)) = 0 ↔ u = 0 ∧ x.toNat ^^^ y.toNat = 0 := Nat.or_eq_zero_iff
  have h1 : x.toNat ^^^ y.toNat = 0 ↔ x = y := by
    refine ⟨fun h => UInt8.toNat_inj.1 (Nat.eq_of_testBit_eq fun i => ?_), fun h => by rw [h, Nat.xor_self]⟩
    have := congrArg (fun n => n.testBit i) h
    simpa [Nat.testBit_xor] using this
  constructor
  · intro h
    have := h0.1 (by omega)
    exact ⟨by omega, h1.1 this.2⟩
  · rintro ⟨h, h'⟩
    have := h0.2 ⟨by omega, h1.2 h'⟩
    omega

theorem take_eq_succ (a b : List UInt8) (i : Nat) (ha : i < a.length) (hb : i < b.length) : a.take (i + 1) = b.take (i + 1) ↔ a.take i = b.take i ∧ a[i] = b[i] := by
  rw [List.take_succ_eq_append_getElem ha, List.take_succ_eq_append_getElem hb]
  constructor
  · intro h
    have := List.append_inj h (by rw [List.length_take, List.length_take]; omega)
    exact ⟨this.1, by simpa using this.2⟩
  · rintro ⟨h, h'⟩
    rw [h, h']

set_option maxHeartbeats 1000000 in
theorem same_any (a b : List UInt8) (w : World) (ha : a.length ≤ 140737488351232) (hb : b.length ≤ 140737488351232) :
    Calls Try.prog 60 #[.string (B a), .string (B b)] w fun e w' => e = .returned (.bool (decide (a = b))) ∧ ∃ n, w' = w.drewN n := by
  by_cases hl : a.length = b.length
  · have hbn : ((a.length : Int) != (b.length : Int)) = false := by rw [bne_eq_false_iff_eq]; omega
    have Hl := Lib.hid hl
    clear hl
    go_enter Try.func60, Try.ntmps60
    go_wp2
    go_loopw [5, 14] (fun uv iv wr => ∃ (i : Nat) (U : Int), i ≤ a.length ∧ iv = .int .i64 i ∧ uv = .int .u8 U ∧ 0 ≤ U ∧ U < 256 ∧ Hid (U = 0 ↔ a.take i = b.take i) ∧ ∃ n, wr = w.drewN n) (fun _ iv _ => a.length - (intOf iv).toNat)
    case atStart => exact ⟨0, 0, Nat.zero_le _, rfl, rfl, by omega, by omega, Lib.hid (by simp), 0, rfl⟩
    case round =>
      obtain ⟨i, U, hi, rfl, rfl, u0, u1, hU, n, rfl⟩ := hrel
      by_cases hlt : i < a.length
      · have hlt2 : i < b.length := by rw [← Hl.out]; exact hlt
        have ho := or_zero_iff U a[i] b[i] u0 u1
        have hs := take_eq_succ a b i hlt hlt2
        have Ho := Lib.hid ho
        have Hs := Lib.hid hs
        have i1 : (i : Int) < a.length := by omega
        have i2 : (i : Int) < b.length := by omega
        clear ho hs
        go_wp2
        go_quiet (fail)
        go_wp2
        go_roundw
        case rel =>
          obtain ⟨o1, o2, o3⟩ := Ho.out
          refine ⟨i + 1, _, by omega, by go_num, rfl, o1, o2, Lib.hid ?_, _, rfl⟩
          rw [o3, Hs.out, hU.out]
        case measure => (simp [intOf]) <;> omega
      · have : i = a.length := by omega
        subst this
        have hfin : decide (a = b) = decide (U = 0) := by
          have := hU.out
          rw [List.take_length, Hl.out, List.take_length] at this
          exact decide_eq_decide.2 this.symm
        have Hf := Lib.hid hfin
        clear hfin hU
        go_wp2
        go_ret
        exact ⟨rbool (by rw [Hf.out]; by_cases h : U = 0 <;> simp [h]), _, rfl⟩
  · have hbn : ((a.length : Int) != (b.length : Int)) = true := by rw [bne_iff_ne]; omega
    have hab : decide (a = b) = false := by
      rw [decide_eq_false_iff_not]
      intro h; exact hl (by rw [h])
    rw [hab]
    clear hl hab
    go_enter Try.func60, Try.ntmps60
    go_wp2
    go_ret
    exact ⟨rfl, 0, rfl⟩

def sameB (a b : List UInt8) : Bool := decide (a = b)
theorem same_b (a b : List UInt8) (w : World) (ha : a.length ≤ 140737488351232) (hb : b.length ≤ 140737488351232) :
    Calls Try.prog 60 #[.string (B a), .string (B b)] w fun e w' => e = .returned (.bool (sameB a b)) ∧ ∃ n, w' = w.drewN n := same_any a b w ha hb
theorem sameB_eq {a b : List UInt8} (h : a = b) : sameB a b = true := by unfold sameB; simpa using h
theorem sameB_ne {a b : List UInt8} (h : a ≠ b) : sameB a b = false := by unfold sameB; simpa using h
end Go.Proofs.Ytcdencpkgfehlaa
