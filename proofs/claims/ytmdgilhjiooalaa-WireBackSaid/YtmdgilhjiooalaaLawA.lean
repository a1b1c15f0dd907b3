/- The walks of WireNumbers, WireLow, WireSealed and WireSums. -/
import Derived.Test.YtmdgilhjiooalaaAlive1
namespace Go.Proofs.Ytmdgilhjiooalaa
open Go.RowKit
set_option linter.unusedVariables false

def putL (v n : Int) : List UInt8 := if putOk v n then be n.toNat v else []
def putE (v n : Int) : Int := if putOk v n then 0 else 1
theorem put_any (v n : Int) (w : World) (hv : v ≤ 9223372036854775807) :
    Calls Try.prog 15 #[.int .i64 v, .int .i64 n] w fun e w' => e = .returned (.tuple #[.string (B (putL v n)), .int .i64 (putE v n)]) ∧ Fr [] w w' := by
  cases h : putOk v n with
  | true =>
    have e1 : putL v n = be n.toNat v := by simp [putL, h]
    have e2 : putE v n = 0 := by simp [putE, h]
    rw [e1, e2]; exact put_ok v n w h
  | false =>
    have e1 : putL v n = [] := by simp [putL, h]
    have e2 : putE v n = 1 := by simp [putE, h]
    rw [e1, e2]; exact (put_no v n w h hv).mono fun e w' ⟨he, hw⟩ => ⟨he, hw ▸ Fr.refl _ _⟩
theorem rput_any (v n : Int) (w : World) :
    Calls Try.prog 16 #[.int .i64 v, .int .i64 n] w fun e w' => e = .returned (.tuple #[.string (B (putL v n)), .int .i64 (putE v n)]) ∧ Fr [] w w' := by
  cases h : putOk v n with
  | true =>
    have e1 : putL v n = be n.toNat v := by simp [putL, h]
    have e2 : putE v n = 0 := by simp [putE, h]
    rw [e1, e2]; exact rput_ok v n w h
  | false =>
    have e1 : putL v n = [] := by simp [putL, h]
    have e2 : putE v n = 1 := by simp [putE, h]
    rw [e1, e2]; exact (rput_no v n w h).mono fun e w' ⟨he, hw⟩ => ⟨he, hw ▸ Fr.refl _ _⟩

theorem wireNumbers_walk (w : World) (v : Int) (v0 : -9223372036854775808 ≤ v) (v1 : v ≤ 9223372036854775807) (n : Int) (n0 : -9223372036854775808 ≤ n) (n1 : n ≤ 9223372036854775807)
    (s : ByteArray) (hs : s.size ≤ 140737488351232) (k : Int) (k0 : -9223372036854775808 ≤ k) (k1 : k ≤ 9223372036854775807) :
    Calls Try.prog 3 #[.int .i64 v, .int .i64 n, .string s, .int .i64 k] w fun e w' => e = .returned (.bool true) ∧ Below w.heap.size w w' := by
  obtain ⟨l, rfl⟩ : ∃ l, s = B l := ⟨_, B_of s⟩
  rw [B_size] at hs
  by_cases hl : 20000 < l.length
  · have hl' : (20000 : Int) < l.length := by omega
    clear hl
    go_enter Try.func3, Try.ntmps3
    go_wp2_with fail
    refine (alive1 _).mono ?_
    rintro e w1 ⟨rfl, hF⟩
    go_wp2
    go_ret
    exact ⟨rfl, hF.below (Nat.le_refl _) (by simp)⟩
  · have hl' : ¬ (20000 : Int) < l.length := by omega
    clear hl
    go_enter Try.func3, Try.ntmps3
    go_wp2_with fail
    refine (put_any _ _ _ v1).mono ?_
    rintro e w1 ⟨rfl, hF1⟩
    go_wp2_with fail
    refine (rput_any _ _ _).mono ?_
    rintro e w2 ⟨rfl, hF2⟩
    go_wp2_with fail
    refine (get_any l k n _ (by omega) k0 k1).mono ?_
    rintro e w3 ⟨rfl, rfl⟩
    go_wp2_with fail
    refine (rget_any l k n _ (by omega) k0 k1).mono ?_
    rintro e w3 ⟨rfl, rfl⟩
    go_wp2_with fail
    refine (alive1 _).mono ?_
    rintro e w3 ⟨rfl, hF3⟩
    go_wp2
    go_ret
    exact ⟨rfl, ((hF1.trans hF2).trans hF3).below (Nat.le_refl _) (by simp)⟩

theorem wireSums_walk (w : World) (s : ByteArray) (hs : s.size ≤ 140737488351232) :
    Calls Try.prog 6 #[.string s] w fun e w' => e = .returned (.bool true) ∧ Below w.heap.size w w' := by
  obtain ⟨l, rfl⟩ : ∃ l, s = B l := ⟨_, B_of s⟩
  rw [B_size] at hs
  by_cases hl : 9000 < l.length
  · have hl' : (9000 : Int) < l.length := by omega
    clear hl
    go_enter Try.func6, Try.ntmps6
    go_wp2_with fail
    refine (alive1 _).mono ?_
    rintro e w1 ⟨rfl, hF⟩
    go_wp2
    go_ret
    exact ⟨rfl, hF.below (Nat.le_refl _) (by simp)⟩
  · have hl' : ¬ (9000 : Int) < l.length := by omega
    clear hl
    go_enter Try.func6, Try.ntmps6
    go_wp2_with fail
    refine (unseal_any l _ (by omega)).mono ?_
    rintro e w1 ⟨rfl, hF1⟩
    go_wp2_with fail
    refine (runseal_any l _ (by omega)).mono ?_
    rintro e w2 ⟨rfl, hF2⟩
    go_wp2_with fail
    refine (alive1 _).mono ?_
    rintro e w3 ⟨rfl, hF3⟩
    go_wp2_with fail
    refine (fcs_any l _ (by omega)).mono ?_
    rintro e w4 ⟨rfl, rfl⟩
    go_wp2_with fail
    refine (rfcs_any l _ (by omega)).mono ?_
    rintro e w4 ⟨rfl, rfl⟩
    go_wp2_with fail
    refine (seal_any l _ (by omega)).mono ?_
    rintro e w4 ⟨rfl, hF4⟩
    go_wp2_with fail
    refine (rseal_any l _ (by omega)).mono ?_
    rintro e w5 ⟨rfl, hF5⟩
    go_wp2
    go_ret
    exact ⟨rfl, ((((hF1.trans hF2).trans hF3).trans hF4).trans hF5).below (Nat.le_refl _) (by simp)⟩

theorem sealL_take (l : List UInt8) : (sealL l).take l.length = l := by simp [sealL]
theorem sealL_inj (a b : List UInt8) : (sealL a == sealL b) = (a == b) := by
  rw [Bool.eq_iff_iff, beq_iff_eq, beq_iff_eq]
  constructor
  · intro h
    have hl : a.length = b.length := by have := congrArg List.length h; rw [sealL_length, sealL_length] at this; omega
    rw [← sealL_take a, ← sealL_take b, h, hl]
  · intro h; rw [h]

theorem wireSealed_walk (w : World) (s : ByteArray) (hs : s.size ≤ 140737488351232) (t : ByteArray) (ht : t.size ≤ 140737488351232) :
    Calls Try.prog 5 #[.string s, .string t] w fun e w' => e = .returned (.bool true) ∧ Below w.heap.size w w' := by
  obtain ⟨a, rfl⟩ : ∃ l, s = B l := ⟨_, B_of s⟩
  obtain ⟨b, rfl⟩ : ∃ l, t = B l := ⟨_, B_of t⟩
  rw [B_size] at hs ht
  by_cases hsmall : a.length + b.length ≤ 6000
  · have hl' : ¬ (6000 : Int) < (a.length : Int) + b.length := by omega
    have ha : a.length ≤ 6000 := by omega
    have hb : b.length ≤ 6000 := by omega
    have h1 := sealL_length a
    have h2 := sealL_take a
    have h3 := sealL_inj a b
    clear hsmall hs ht
    go_enter Try.func5, Try.ntmps5
    go_wp2_with fail
    refine (seal_any a _ (by omega)).mono ?_
    rintro e w1 ⟨rfl, hF1⟩
    go_wp2_with fail
    refine (seal_any b _ (by omega)).mono ?_
    rintro e w2 ⟨rfl, hF2⟩
    go_wp2_with fail
    refine (alive1 _).mono ?_
    rintro e w3 ⟨rfl, hF3⟩
    go_wp2
    go_ret
    exact ⟨rfl, ((hF1.trans hF2).trans hF3).below (Nat.le_refl _) (by simp)⟩
  · have hl' : (6000 : Int) < (a.length : Int) + b.length := by omega
    have ha : (a.length : Int) ≤ 140737488351232 := by omega
    have hb : (b.length : Int) ≤ 140737488351232 := by omega
    clear hsmall hs ht
    go_enter Try.func5, Try.ntmps5
    go_wp2_with fail
    refine (alive1 _).mono ?_
    rintro e w1 ⟨rfl, hF⟩
    go_wp2
    go_ret
    exact ⟨rfl, hF.below (Nat.le_refl _) (by simp)⟩

theorem be_last (n : Nat) (v : Int) : be (n + 1) v = be n (v / 256) ++ [UInt8.ofNat (v % 256).toNat] := rfl
theorem be_zero_cons (n : Nat) (v : Int) (h0 : 0 ≤ v) (h : v < 256 ^ n) : be (n + 1) v = 0 :: be n v := by
  rw [be_bytesOf, beI_cons, be_bytesOf, Int.ediv_eq_zero_of_lt h0 h]
  rfl

set_option maxHeartbeats 1000000 in
theorem wireLow_walk (w : World) (v : Int) (v0 : -9223372036854775808 ≤ v) (v1 : v ≤ 9223372036854775807) (n : Int) (n0 : -9223372036854775808 ≤ n) (n1 : n ≤ 9223372036854775807) :
    Calls Try.prog 4 #[.int .i64 v, .int .i64 n] w fun e w' => e = .returned (.bool true) ∧ Below w.heap.size w w' := by
  cases hok : putOk v n with
  | false =>
    have e1 : putE v n = 1 := by simp [putE, hok]
    clear hok
    go_enter Try.func4, Try.ntmps4
    go_wp2_with fail
    refine (put_any _ _ _ v1).mono ?_
    rw [e1]
    rintro e w1 ⟨rfl, hF1⟩
    go_wp2_with fail
    refine (put_any _ _ _ v1).mono ?_
    rintro e w2 ⟨rfl, hF2⟩
    go_wp2_with fail
    refine (alive1 _).mono ?_
    rintro e w3 ⟨rfl, hF3⟩
    go_wp2
    go_ret
    exact ⟨rfl, ((hF1.trans hF2).trans hF3).below (Nat.le_refl _) (by simp)⟩
  | true =>
    have hok' := hok
    simp only [putOk, decide_eq_true_eq] at hok'
    obtain ⟨h1, h2, h3, h4⟩ := hok'
    have e1 : putE v n = 0 := by simp [putE, hok]
    by_cases hn : n = 4
    · subst hn
      clear hok h4
      go_enter Try.func4, Try.ntmps4
      go_wp2_with fail
      refine (put_any _ _ _ v1).mono ?_
      rw [e1]
      rintro e w1 ⟨rfl, hF1⟩
      go_wp2_with fail
      refine (put_any _ _ _ v1).mono ?_
      rintro e w2 ⟨rfl, hF2⟩
      go_wp2_with fail
      refine (alive1 _).mono ?_
      rintro e w3 ⟨rfl, hF3⟩
      go_wp2
      go_ret
      exact ⟨rfl, ((hF1.trans hF2).trans hF3).below (Nat.le_refl _) (by simp)⟩
    · have hok2 : putOk v (n + 1) = true := by
        simp only [putOk, decide_eq_true_eq]
        refine ⟨by omega, by omega, h3, Int.lt_of_lt_of_le h4 ?_⟩
        rw [show (n + 1).toNat = n.toNat + 1 from by omega, Int.pow_succ]
        have : (0 : Int) < 256 ^ n.toNat := Int.pow_pos (by omega)
        omega
      have e2 : putE v (n + 1) = 0 := by simp [putE, hok2]
      have l1 : putL v n = be n.toNat v := by simp [putL, hok]
      have l2 : putL v (n + 1) = 0 :: be n.toNat v := by
        simp only [putL, hok2, if_true]
        rw [show (n + 1).toNat = n.toNat + 1 from by omega]
        exact be_zero_cons _ _ h3 h4
      have hlast : ∃ (m : List UInt8) (r : UInt8), be n.toNat v = m ++ [r] ∧ m.length = n.toNat - 1 ∧ (r.toNat : Int) = v % 256 := by
        obtain ⟨k, hk⟩ : ∃ k, n.toNat = k + 1 := ⟨n.toNat - 1, by omega⟩
        rw [hk]
        exact ⟨_, _, be_last _ _, by rw [be_length]; omega, u8_toNat _ (by omega) (by omega)⟩
      obtain ⟨m, r, hm, hml, hr⟩ := hlast
      have hrb : (wrap64 (r.toNat : Int) == v % 256) = true := by rw [beq_iff_eq, wrap_byte]; exact hr
      rw [hm] at l1 l2
      clear hm hok hok2 h4 hr
      obtain rfl | rfl | rfl : n = 1 ∨ n = 2 ∨ n = 3 := by omega
      · obtain rfl : m = [] := List.eq_nil_of_length_eq_zero (by simpa using hml)
        clear hml hn
        simp only [Int.reduceAdd] at e2 l2
        go_enter Try.func4, Try.ntmps4
        go_wp2_with fail
        refine (put_any _ _ _ v1).mono ?_
        rw [e1, l1]
        rintro e w1 ⟨rfl, hF1⟩
        go_wp2_with fail
        refine (put_any _ 2 _ v1).mono ?_
        rw [e2, l2]
        rintro e w2 ⟨rfl, hF2⟩
        clear e1 l1 e2 l2
        go_wp2_with fail
        refine (alive1 _).mono ?_
        rintro e w3 ⟨rfl, hF3⟩
        go_wp2
        go_ret
        exact ⟨rfl, ((hF1.trans hF2).trans hF3).below (Nat.le_refl _) (by simp)⟩
      · obtain ⟨p, rfl⟩ : ∃ p, m = [p] := List.length_eq_one_iff.1 (by simpa using hml)
        clear hml hn
        simp only [Int.reduceAdd] at e2 l2
        go_enter Try.func4, Try.ntmps4
        go_wp2_with fail
        refine (put_any _ _ _ v1).mono ?_
        rw [e1, l1]
        rintro e w1 ⟨rfl, hF1⟩
        go_wp2_with fail
        refine (put_any _ 3 _ v1).mono ?_
        rw [e2, l2]
        rintro e w2 ⟨rfl, hF2⟩
        clear e1 l1 e2 l2
        go_wp2_with fail
        refine (alive1 _).mono ?_
        rintro e w3 ⟨rfl, hF3⟩
        go_wp2
        go_ret
        exact ⟨rfl, ((hF1.trans hF2).trans hF3).below (Nat.le_refl _) (by simp)⟩
      · obtain ⟨p, q, rfl⟩ : ∃ p q, m = [p, q] := by
          match m, hml with
          | [p, q], _ => exact ⟨p, q, rfl⟩
        clear hml hn
        simp only [Int.reduceAdd] at e2 l2
        go_enter Try.func4, Try.ntmps4
        go_wp2_with fail
        refine (put_any _ _ _ v1).mono ?_
        rw [e1, l1]
        rintro e w1 ⟨rfl, hF1⟩
        go_wp2_with fail
        refine (put_any _ 4 _ v1).mono ?_
        rw [e2, l2]
        rintro e w2 ⟨rfl, hF2⟩
        clear e1 l1 e2 l2
        go_wp2_with fail
        refine (alive1 _).mono ?_
        rintro e w3 ⟨rfl, hF3⟩
        go_wp2
        go_ret
        exact ⟨rfl, ((hF1.trans hF2).trans hF3).below (Nat.le_refl _) (by simp)⟩
end Go.Proofs.Ytmdgilhjiooalaa
