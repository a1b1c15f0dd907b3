/- A protocol's data read: the document's. -/
import Derived.Test.YtmdgilhjiooalaaGram2
namespace Go.Proofs.Ytmdgilhjiooalaa
open Go.RowKit
set_option linter.unusedVariables false

theorem getV2 (x y : UInt8) (r : List UInt8) : getV (x :: y :: r) 0 2 = (x.toNat : Int) * 256 + (y.toNat : Int) := by
  simp [getV, List.getD]
theorem isP2 (x y : UInt8) (r : List UInt8) : isP (getV (x :: y :: r) 0 2) = decide ((y.toNat : Int) % 2 = 1 ∧ (x.toNat : Int) % 2 = 0) := by
  have hx := byte_bd x
  have hy := byte_bd y
  rw [getV2]
  unfold isP
  apply decide_eq_decide.2
  omega

theorem rgetppp_any (l : List UInt8) (w : World) (hl : l.length ≤ 1000000) :
    Calls Try.prog 42 #[.string (B l)] w fun e w' => e = .returned (.tuple #[.int .i64 (pppV l), .string (B (pppL l)), .int .i64 (pppE l)]) ∧ Fr [] w w' := by
  by_cases h : l.length < 2
  · have e : pppE l = 5 := by unfold pppE; rw [if_pos h]
    have e1 : pppV l = 0 := by unfold pppV; rw [e]; rfl
    have e2 : pppL l = [] := by unfold pppL; rw [e]; rfl
    rw [e, e1, e2]
    have h' : (l.length : Int) < 2 := by omega
    clear e e1 e2 h
    go_enter Try.func42, Try.ntmps42
    go_wp2
    go_ret3
    exact ⟨rfl, Fr.refl _ _⟩
  · match l, hl, h with
    | [], _, h => simp at h
    | [_], _, h => simp at h
    | x :: y :: r, hl, h =>
    have hlen : (x :: y :: r).length = r.length + 2 := by simp
    have hr : r.length ≤ 1000000 := by rw [hlen] at hl; omega
    by_cases hp : (y.toNat : Int) % 2 = 1 ∧ (x.toNat : Int) % 2 = 0
    · have p : isP (getV (x :: y :: r) 0 2) = true := by rw [isP2]; simpa using hp
      obtain ⟨p1, p2⟩ := hp
      have b1 : ((y.toNat : Int) % 2 == 0) = false := by rw [beq_eq_false_iff_ne]; omega
      have b2 : ((x.toNat : Int) % 2 == 1) = false := by rw [beq_eq_false_iff_ne]; omega
      by_cases h3 : 1492 < r.length
      · have e : pppE (x :: y :: r) = 2 := by unfold pppE; rw [if_neg h, p, if_neg (by simp), if_pos (by rw [hlen]; omega)]
        have e1 : pppV (x :: y :: r) = 0 := by unfold pppV; rw [e]; rfl
        have e2 : pppL (x :: y :: r) = [] := by unfold pppL; rw [e]; rfl
        rw [e, e1, e2]
        have h3' : (1492 : Int) < r.length := by omega
        clear e e1 e2 h h3 hlen p p1 p2 hl
        go_enter Try.func42, Try.ntmps42
        go_wp2
        go_ret3
        exact ⟨rfl, Fr.refl _ _⟩
      · have e : pppE (x :: y :: r) = 0 := by unfold pppE; rw [if_neg h, p, if_neg (by simp), if_neg (by rw [hlen]; omega)]
        have e1 : pppV (x :: y :: r) = getV (x :: y :: r) 0 2 := by unfold pppV; rw [if_pos e]
        have e2 : pppL (x :: y :: r) = r := by unfold pppL; rw [if_pos e]; rfl
        rw [e, e1, e2]
        have h3' : ¬ (1492 : Int) < r.length := by omega
        obtain ⟨L, hL⟩ : ∃ L, x :: y :: r = L := ⟨_, rfl⟩
        have i2 : (2 : Int) ≤ L.length := by rw [← hL]; simp; omega
        have l2 : L.length = r.length + 2 := by rw [← hL]; simp
        have hd : (L.drop 2).take (L.length - 2) = r := by rw [← hL]; simp
        have n1 : 1 < L.length := by omega
        have n0 : 0 < L.length := by omega
        have x0 : L[0]'n0 = x := by subst hL; rfl
        have x1 : L[1]'n1 = y := by subst hL; rfl
        rw [hL]
        have q1 : ((L[1]'n1).toNat : Int) % 2 = 1 := by rw [x1]; exact p1
        have q0 : ((L[0]'n0).toNat : Int) % 2 = 0 := by rw [x0]; exact p2
        have c1 : (((L[1]'n1).toNat : Int) % 2 == 0) = false := by rw [x1]; exact b1
        have c0 : (((L[0]'n0).toNat : Int) % 2 == 1) = false := by rw [x0]; exact b2
        have h4 : ¬ (1492 : Int) < (L.length : Int) - 2 := by omega
        have h5 : ¬ (L.length : Int) < 2 := by omega
        have hL2 : L.length ≤ 1000000 := by omega
        clear e e1 e2 h h3 hlen p p1 p2 hl hL x0 x1 b1 b2 l2 h3'
        go_enter Try.func42, Try.ntmps42
        go_wp2_with fail
        go_region_with (go_at_call 54; refine (num_q L 0 _ (by omega) i2 hL2).mono ?_; rintro e w3 ⟨rfl, hF3⟩)
        all_goals go_wp2
        all_goals
          go_ret3
          exact ⟨rfl, ((Fr.refl _ _).drew).trans hF3⟩
    · have p : isP (getV (x :: y :: r) 0 2) = false := by rw [isP2]; simpa using hp
      have e : pppE (x :: y :: r) = 4 := by unfold pppE; rw [if_neg h, if_pos p]
      have e1 : pppV (x :: y :: r) = 0 := by unfold pppV; rw [e]; rfl
      have e2 : pppL (x :: y :: r) = [] := by unfold pppL; rw [e]; rfl
      rw [e, e1, e2]
      by_cases hy : (y.toNat : Int) % 2 = 1
      · have hx : (x.toNat : Int) % 2 = 1 := by omega
        have b1 : ((y.toNat : Int) % 2 == 0) = false := by rw [beq_eq_false_iff_ne]; omega
        have b2 : ((x.toNat : Int) % 2 == 1) = true := by rw [beq_iff_eq]; omega
        clear e e1 e2 p hp hx hy h hlen hl
        go_enter Try.func42, Try.ntmps42
        go_wp2
        go_ret3
        exact ⟨rfl, Fr.refl _ _⟩
      · have b1 : ((y.toNat : Int) % 2 == 0) = true := by rw [beq_iff_eq]; omega
        clear e e1 e2 p hp hy h hlen hl
        go_enter Try.func42, Try.ntmps42
        go_wp2
        go_ret3
        exact ⟨rfl, Fr.refl _ _⟩
end Go.Proofs.Ytmdgilhjiooalaa
