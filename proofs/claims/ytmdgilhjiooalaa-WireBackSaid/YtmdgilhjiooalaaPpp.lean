import Derived.Test.YtmdgilhjiooalaaWire2
import Derived.Test.YtmdgilhjiooalaaLow
import Derived.Test.YtmdgilhjiooalaaSeal
namespace Go.Proofs.Ytmdgilhjiooalaa
open Go.RowKit
set_option linter.unusedVariables false

theorem and1 (x : Int) (h0 : 0 ≤ x) (h1 : x < 4611686018427387904) : bits .and .i64 x 1 = x % 2 := by
  have hk : ∀ n : Int, 0 ≤ n → n < 2 ^ 62 → IntKind.i64.wrap n = n := fun n h0 h1 => by rw [IntKind.wrap_i64]; omega
  have := bits_mask .i64 62 (by decide) hk 1 (by decide) x h0 (by simpa using h1)
  simpa using this

def isP (p : Int) : Bool := decide (0 ≤ p ∧ p ≤ 65535 ∧ p % 2 = 1 ∧ p / 256 % 2 = 0)

theorem isProto_any (p : Int) (w : World) :
    Calls Try.prog 55 #[.int .i64 p] w fun e w' => e = .returned (.bool (isP p)) ∧ w = w' := by
  by_cases h : 0 ≤ p ∧ p ≤ 65535
  · have hi : inB p 0 65535 = true := by simp only [inB, decide_eq_true_eq]; exact h
    obtain ⟨h0, h1⟩ := h
    have a1 := and1 p h0 (by omega)
    have a2 := and1 (p / 256) (by omega) (by omega)
    by_cases h2 : p % 2 = 1
    · have hb : (p % 2 == 1) = true := by rw [beq_iff_eq]; exact h2
      have e : isP p = (p / 256 % 2 == 0) := by simp only [isP]; rw [Bool.eq_iff_iff, decide_eq_true_eq, beq_iff_eq]; omega
      have E := Lib.hid e
      clear h2 e
      go_enter Try.func55, Try.ntmps55
      go_wp2_with fail
      refine (in_any _ _ _ _).mono ?_
      rintro e w1 ⟨rfl, rfl⟩
      go_wp2
      go_ret
      exact ⟨rbool E.out.symm, rfl⟩
    · have hb : (p % 2 == 1) = false := by rw [beq_eq_false_iff_ne]; exact h2
      have e : isP p = false := by simp only [isP, decide_eq_false_iff_not]; omega
      have E := Lib.hid e
      clear h2 e
      go_enter Try.func55, Try.ntmps55
      go_wp2_with fail
      refine (in_any _ _ _ _).mono ?_
      rintro e w1 ⟨rfl, rfl⟩
      go_wp2
      go_ret
      exact ⟨rbool E.out.symm, rfl⟩
  · have hi : inB p 0 65535 = false := by simp only [inB, decide_eq_false_iff_not]; exact h
    have e : isP p = false := by simp only [isP, decide_eq_false_iff_not]; omega
    have E := Lib.hid e
    clear h e
    go_enter Try.func55, Try.ntmps55
    go_wp2_with fail
    refine (in_any _ _ _ _).mono ?_
    rintro e w1 ⟨rfl, rfl⟩
    go_wp2
    go_ret
    exact ⟨rbool E.out.symm, rfl⟩

def pppE (l : List UInt8) : Int := if l.length < 2 then 5 else if isP (getV l 0 2) = false then 4 else if 1492 < l.length - 2 then 2 else 0
def pppV (l : List UInt8) : Int := if pppE l = 0 then getV l 0 2 else 0
def pppL (l : List UInt8) : List UInt8 := if pppE l = 0 then l.drop 2 else []

theorem getppp_any (l : List UInt8) (w : World) (hl : l.length ≤ 1000000) :
    Calls Try.prog 41 #[.string (B l)] w fun e w' => e = .returned (.tuple #[.int .i64 (pppV l), .string (B (pppL l)), .int .i64 (pppE l)]) ∧ Fr [] w w' := by
  by_cases h2 : l.length < 2
  · have e : pppE l = 5 := by unfold pppE; rw [if_pos h2]
    have e1 : pppV l = 0 := by unfold pppV; rw [e]; rfl
    have e2 : pppL l = [] := by unfold pppL; rw [e]; rfl
    have g0 : getE l 0 2 = 5 := by unfold getE; rw [if_neg (by omega), if_pos (by omega)]
    have g1 : getR l 0 2 = 0 := by unfold getR; rw [g0]; rfl
    rw [e, e1, e2]; clear e e1 e2
    go_enter Try.func41, Try.ntmps41
    go_wp2_with fail
    refine (get_any l 0 2 _ (by omega) (by omega) (by omega)).mono ?_
    rw [g0, g1]
    rintro e w1 ⟨rfl, rfl⟩
    go_wp2
    go_ret3
    exact ⟨rfl, Fr.refl _ _⟩
  · have g0 : getE l 0 2 = 0 := by unfold getE; rw [if_neg (by omega), if_neg (by omega)]
    have g1 : getR l 0 2 = getV l 0 2 := by unfold getR; rw [if_pos g0]; rfl
    cases hp : isP (getV l 0 2) with
    | false =>
      have e : pppE l = 4 := by unfold pppE; rw [if_neg h2, if_pos hp]
      have e1 : pppV l = 0 := by unfold pppV; rw [e]; rfl
      have e2 : pppL l = [] := by unfold pppL; rw [e]; rfl
      rw [e, e1, e2]; clear e e1 e2
      go_enter Try.func41, Try.ntmps41
      go_wp2_with fail
      refine (get_any l 0 2 _ (by omega) (by omega) (by omega)).mono ?_
      rw [g0, g1]
      rintro e w1 ⟨rfl, rfl⟩
      go_wp2_with fail
      refine (isProto_any _ _).mono ?_
      rintro e w1 ⟨rfl, rfl⟩
      go_wp2
      go_ret3
      exact ⟨rfl, Fr.refl _ _⟩
    | true =>
      by_cases h3 : 1492 < l.length - 2
      · have e : pppE l = 2 := by unfold pppE; rw [if_neg h2, hp, if_neg (by simp), if_pos h3]
        have e1 : pppV l = 0 := by unfold pppV; rw [e]; rfl
        have e2 : pppL l = [] := by unfold pppL; rw [e]; rfl
        rw [e, e1, e2]; clear e e1 e2
        have h3' : (1492 : Int) < (l.length : Int) - 2 := by omega
        clear h3
        go_enter Try.func41, Try.ntmps41
        go_wp2_with fail
        refine (get_any l 0 2 _ (by omega) (by omega) (by omega)).mono ?_
        rw [g0, g1]
        rintro e w1 ⟨rfl, rfl⟩
        go_wp2_with fail
        refine (isProto_any _ _).mono ?_
        rintro e w1 ⟨rfl, rfl⟩
        go_wp2
        go_ret3
        exact ⟨rfl, Fr.refl _ _⟩
      · have e : pppE l = 0 := by unfold pppE; rw [if_neg h2, hp, if_neg (by simp), if_neg h3]
        have e1 : pppV l = getV l 0 2 := by unfold pppV; rw [if_pos e]
        have e2 : pppL l = l.drop 2 := by unfold pppL; rw [if_pos e]
        rw [e, e1, e2]; clear e e1 e2
        have h3' : ¬ (1492 : Int) < (l.length : Int) - 2 := by omega
        clear h3
        have hd : (l.drop 2).take (l.length - 2) = l.drop 2 := List.take_of_length_le (by simp)
        go_enter Try.func41, Try.ntmps41
        go_wp2_with fail
        refine (get_any l 0 2 _ (by omega) (by omega) (by omega)).mono ?_
        rw [g0, g1]
        rintro e w1 ⟨rfl, rfl⟩
        go_wp2_with fail
        refine (isProto_any _ _).mono ?_
        rintro e w1 ⟨rfl, rfl⟩
        go_wp2_with fail
        refine (clone_any _ _ (by simp; omega)).mono ?_
        rintro e w1 ⟨rfl, hF⟩
        go_wp2
        go_ret3
        exact ⟨rfl, hF⟩
end Go.Proofs.Ytmdgilhjiooalaa
