/- What Number reads of Digits; the walk of WireDigits. -/
import Derived.Test.YtmdgilhjiooalaaRDigits
import Derived.Test.YtmdgilhjiooalaaNumber
import Derived.Test.YtmdgilhjiooalaaHexLaw
namespace Go.Proofs.Ytmdgilhjiooalaa
open Go.RowKit
set_option linter.unusedVariables false

theorem nd_spec (f : Nat) (v : Int) (h0 : 0 ≤ v) (h : v < 10 ^ f) (hf : 1 ≤ f) : 1 ≤ nd f v ∧ v < 10 ^ nd f v ∧ (nd f v = 1 ∨ (10 : Int) ^ (nd f v - 1) ≤ v) := by
  induction f generalizing v with
  | zero => omega
  | succ f ih =>
    unfold nd
    split
    · exact ⟨Nat.le_refl _, by simpa using ‹v < 10›, .inl rfl⟩
    · rename_i hv
      by_cases hf0 : f = 0
      · subst hf0; simp at h; omega
      · obtain ⟨h1, h2, h3⟩ := ih (v / 10) (by omega) (by rw [Int.pow_succ] at h; omega) (by omega)
        refine ⟨by omega, by rw [Int.pow_succ]; omega, .inr ?_⟩
        rw [Nat.add_sub_cancel]
        rcases h3 with h3 | h3
        · rw [h3]; omega
        · obtain ⟨k, hk⟩ : ∃ k, nd f (v / 10) = k + 1 := ⟨nd f (v / 10) - 1, by omega⟩
          rw [hk] at h3 ⊢
          rw [Nat.add_sub_cancel] at h3
          rw [Int.pow_succ]; omega
theorem at0_append (l t : List UInt8) (i : Nat) (h : i < l.length) : at0 (l ++ t) i = at0 l i := by
  unfold at0; rw [List.getD, List.getD, List.getElem?_append_left h]
theorem decV_append (l t : List UInt8) (k : Nat) (h : k ≤ l.length) : decV (l ++ t) k = decV l k := by
  induction k with
  | zero => rfl
  | succ k ih => rw [decV, decV, ih (by omega), at0_append l t k (by omega)]
def dgB (n : Nat) (v : Int) : List UInt8 := bytesOf (dgI n v)
theorem dgB_length (n : Nat) (v : Int) : (dgB n v).length = n := by simp [dgB, bytesOf, dgI_length]
theorem dgB_succ (n : Nat) (v : Int) : dgB (n + 1) v = dgB n (v / 10) ++ [UInt8.ofNat (48 + v % 10).toNat] := by simp [dgB, dgI, bytesOf]
theorem dgB_dec (n : Nat) (v : Int) (h0 : 0 ≤ v) : decV (dgB n v) n = v % 10 ^ n := by
  induction n generalizing v with
  | zero => simp [decV, Int.emod_one]
  | succ n ih =>
    rw [decV, dgB_succ, decV_append _ _ _ (by rw [dgB_length]; exact Nat.le_refl _), ih (v / 10) (by omega)]
    have e : at0 (dgB n (v / 10) ++ [UInt8.ofNat (48 + v % 10).toNat]) n = 48 + v % 10 := by
      unfold at0
      rw [List.getD, List.getElem?_append_right (by rw [dgB_length]; exact Nat.le_refl _), dgB_length, Nat.sub_self]
      exact u8_toNat _ (by omega) (by omega)
    rw [e, Int.pow_succ]
    have h1 := Int.emod_add_mul_ediv (v / 10) (10 ^ n)
    have h2 : v % (10 ^ n * 10) = v - (10 ^ n * 10) * (v / (10 ^ n * 10)) := Int.emod_def ..
    have h3 : v / (10 ^ n * 10) = v / 10 / 10 ^ n := by rw [Int.mul_comm, ← Int.ediv_ediv_of_nonneg (by omega)]
    rw [h2, h3]
    have h4 : (10 : Int) ^ n * 10 * (v / 10 / 10 ^ n) = 10 * (10 ^ n * (v / 10 / 10 ^ n)) := by rw [Int.mul_comm (10 ^ n) 10, Int.mul_assoc]
    rw [h4]
    omega
theorem dgB_all (n : Nat) (v : Int) : (dgB n v).all isNb = true := by
  induction n generalizing v with
  | zero => rfl
  | succ n ih =>
    rw [dgB_succ, List.all_append, ih]
    simp only [List.all_cons, List.all_nil, Bool.and_true, Bool.true_and, isNb]
    rw [u8_toNat _ (by omega) (by omega)]
    simp only [isN, decide_eq_true_eq]; omega
theorem dgB_head (n : Nat) (v : Int) : at0 (dgB (n + 1) v) 0 = 48 + v / 10 ^ n % 10 := by
  unfold dgB
  rw [dgI_cons]
  exact u8_toNat _ (by omega) (by omega)
theorem digL_pos (v : Int) (h : 0 ≤ v) : digL v = dgB (nd 25 v) v := by
  unfold digL digI absI dgB
  rw [if_neg (by omega), if_neg (by omega)]; rfl
theorem digL_neg (v : Int) (h : v < 0) : digL v = 45 :: dgB (nd 25 (-v)) (-v) := by
  unfold digL digI absI dgB
  rw [if_pos h, if_pos h]; rfl
theorem dig_few (v : Int) (h0 : 0 ≤ v) (h : v < 10000000000) : numE (digL v) = 0 ∧ numV (digL v) = v := by
  obtain ⟨h1, h2, h3⟩ := nd_spec 25 v h0 (by omega) (by omega)
  rw [digL_pos v h0]
  obtain ⟨n, hn⟩ : ∃ n, nd 25 v = n + 1 := ⟨nd 25 v - 1, by omega⟩
  rw [hn] at h2 h3 ⊢
  have h10 : n + 1 ≤ 10 := by
    apply Classical.byContradiction; intro hc
    obtain ⟨m, rfl⟩ : ∃ m, n = 10 + m := ⟨n - 10, by omega⟩
    rcases h3 with h3 | h3
    · omega
    · rw [Nat.add_sub_cancel, Int.pow_add] at h3
      have : (1 : Int) ≤ 10 ^ m := Int.pow_pos (by omega)
      have : (10 : Int) ^ 10 * 1 ≤ 10 ^ 10 * 10 ^ m := Int.mul_le_mul_of_nonneg_left this (by omega)
      omega
  have e : numE (dgB (n + 1) v) = 0 := by
    unfold numE
    rw [if_neg]
    rw [dgB_length, dgB_all, dgB_head]
    rintro (h | h | ⟨h, h'⟩ | h)
    · omega
    · omega
    · have h3' := h3.resolve_left (by omega)
      rw [Nat.add_sub_cancel] at h3'
      have hp : (0 : Int) < 10 ^ n := Int.pow_pos (by omega)
      have a1 : 1 ≤ v / 10 ^ n := (Int.le_ediv_iff_mul_le hp).2 (by rw [Int.one_mul]; exact h3')
      have a2 : v / 10 ^ n < 10 := Int.ediv_lt_of_lt_mul hp (by rw [Int.pow_succ, Int.mul_comm] at h2; exact h2)
      omega
    · cases h
  refine ⟨e, ?_⟩
  unfold numV
  rw [if_pos e, dgB_length, dgB_dec _ _ h0, Int.emod_eq_of_lt h0 h2]
theorem dig_many (v : Int) (h : 10000000000 ≤ v) (hv : v ≤ 9223372036854775807) : numE (digL v) = 1 := by
  obtain ⟨h1, h2, h3⟩ := nd_spec 25 v (by omega) (by omega) (by omega)
  rw [digL_pos v (by omega)]
  have h10 : 10 < nd 25 v := by
    apply Classical.byContradiction; intro hc
    have h : (10 : Nat) ^ nd 25 v ≤ 10 ^ 10 := Nat.pow_le_pow_right (by omega) (by omega)
    have e : (10 : Int) ^ nd 25 v = ((10 ^ nd 25 v : Nat) : Int) := by simp
    omega
  unfold numE
  rw [if_pos (.inr (.inl (by rw [dgB_length]; exact h10)))]
theorem dig_below (v : Int) (h : v < 0) : numE (digL v) = 1 := by
  rw [digL_neg v h]
  unfold numE
  rw [if_pos (.inr (.inr (.inr (by rw [List.all_cons]; rfl))))]
theorem dig_inj (a b : Int) (a0 : -9223372036854775808 ≤ a) (a1 : a ≤ 9223372036854775807) (b0 : -9223372036854775808 ≤ b) (b1 : b ≤ 9223372036854775807) : (digL a == digL b) = (a == b) := by
  have key : ∀ x y : Int, 0 ≤ x → 0 ≤ y → x ≤ 9223372036854775808 → y ≤ 9223372036854775808 → dgB (nd 25 x) x = dgB (nd 25 y) y → x = y := by
    intro x y x0 y0 x1 y1 e
    have hl := congrArg List.length e
    rw [dgB_length, dgB_length] at hl
    have hx := nd_spec 25 x x0 (by omega) (by omega)
    have hy := nd_spec 25 y y0 (by omega) (by omega)
    have hd : decV (dgB (nd 25 x) x) (nd 25 x) = decV (dgB (nd 25 y) y) (nd 25 x) := by rw [e]
    rw [dgB_dec _ _ x0, hl, dgB_dec _ _ y0, ← hl, Int.emod_eq_of_lt x0 hx.2.1, Int.emod_eq_of_lt y0 (hl ▸ hy.2.1)] at hd
    exact hd
  have mix : ∀ x y : Int, x < 0 → 0 ≤ y → y ≤ 9223372036854775807 → digL x ≠ digL y := by
    intro x y hx hy hy1 e
    rw [digL_neg x hx, digL_pos y hy] at e
    have h1 := nd_spec 25 y hy (by omega) (by omega)
    obtain ⟨n, hn⟩ : ∃ n, nd 25 y = n + 1 := ⟨nd 25 y - 1, by omega⟩
    rw [hn] at e
    have h2 : at0 (45 :: dgB (nd 25 (-x)) (-x)) 0 = at0 (dgB (n + 1) y) 0 := by rw [e]
    rw [dgB_head] at h2
    have h3 : at0 (45 :: dgB (nd 25 (-x)) (-x)) 0 = 45 := rfl
    omega
  rw [Bool.eq_iff_iff, beq_iff_eq, beq_iff_eq]
  constructor
  · intro e
    by_cases ha : a < 0 <;> by_cases hb : b < 0
    · rw [digL_neg a ha, digL_neg b hb] at e
      have := key (-a) (-b) (by omega) (by omega) (by omega) (by omega) (List.cons.inj e).2
      omega
    · exact absurd e (mix a b ha (by omega) b1)
    · exact absurd e.symm (mix b a hb (by omega) a1)
    · rw [digL_pos a (by omega), digL_pos b (by omega)] at e
      exact key a b (by omega) (by omega) (by omega) (by omega) e
  · intro e; rw [e]
theorem digL_length (v : Int) (v0 : -9223372036854775808 ≤ v) (v1 : v ≤ 9223372036854775807) : (digL v).length ≤ 30 := by
  by_cases h : v < 0
  · rw [digL_neg v h, List.length_cons, dgB_length]
    have := nd_le 25 (-v) (by omega) (by omega) (by omega); omega
  · rw [digL_pos v (by omega), dgB_length]
    have := nd_le 25 v (by omega) (by omega) (by omega); omega

set_option maxHeartbeats 1000000 in
theorem wireDigits_walk (w : World) (a : Int) (a0 : -9223372036854775808 ≤ a) (a1 : a ≤ 9223372036854775807) (b : Int) (b0 : -9223372036854775808 ≤ b) (b1 : b ≤ 9223372036854775807) :
    Calls Try.prog 9 #[.int .i64 a, .int .i64 b] w fun e w' => e = .returned (.bool true) ∧ Below w.heap.size w w' := by
  have hinj := dig_inj a b a0 a1 b0 b1
  by_cases hc : 0 ≤ a ∧ a < 10000000000
  · obtain ⟨c0, c1⟩ := hc
    obtain ⟨e1, e2⟩ := dig_few a c0 c1
    go_enter Try.func9, Try.ntmps9
    go_wp2_with fail
    refine (digits_any a _ a0 a1).mono ?_
    rintro e w1 ⟨rfl, hF1⟩
    go_wp2_with fail
    refine (number_any (digL a) _ (by have := digL_length a a0 a1; omega)).mono ?_
    rw [e1, e2]
    rintro e w2 ⟨rfl, rfl⟩
    go_wp2_with fail
    refine (alive1 _).mono ?_
    rintro e w3 ⟨rfl, hF3⟩
    go_wp2_with fail
    refine (digits_any a _ a0 a1).mono ?_
    rintro e w4 ⟨rfl, hF4⟩
    go_wp2_with fail
    refine (digits_any b _ b0 b1).mono ?_
    rintro e w5 ⟨rfl, hF5⟩
    go_wp2
    go_ret
    exact ⟨rfl, (((hF1.trans hF3).trans hF4).trans hF5).below (Nat.le_refl _) (by simp)⟩
  · have e1 : numE (digL a) = 1 := by
      by_cases h : a < 0
      · exact dig_below a h
      · exact dig_many a (by omega) a1
    have e2 : numV (digL a) = 0 := by unfold numV; rw [e1]; rfl
    have hsplit : a < 0 ∨ (0 ≤ a ∧ 10000000000 ≤ a) := by omega
    clear hc
    rcases hsplit with h | ⟨h0, h⟩
    all_goals
      go_enter Try.func9, Try.ntmps9
      go_wp2_with fail
      refine (digits_any a _ a0 a1).mono ?_
      rintro e w1 ⟨rfl, hF1⟩
      go_wp2_with fail
      refine (number_any (digL a) _ (by have := digL_length a a0 a1; omega)).mono ?_
      rw [e1, e2]
      rintro e w2 ⟨rfl, rfl⟩
      go_wp2_with fail
      refine (alive1 _).mono ?_
      rintro e w3 ⟨rfl, hF3⟩
      go_wp2_with fail
      refine (digits_any a _ a0 a1).mono ?_
      rintro e w4 ⟨rfl, hF4⟩
      go_wp2_with fail
      refine (digits_any b _ b0 b1).mono ?_
      rintro e w5 ⟨rfl, hF5⟩
      go_wp2
      go_ret
      exact ⟨rfl, (((hF1.trans hF3).trans hF4).trans hF5).below (Nat.le_refl _) (by simp)⟩
end Go.Proofs.Ytmdgilhjiooalaa
