import Derived.Test.YtmdgilhjiooalaaWire1
namespace Go.Proofs.Ytmdgilhjiooalaa
open Go.RowKit
set_option linter.unusedVariables false

theorem wrap_byte (b : UInt8) : wrap64 (b.toNat : Int) = (b.toNat : Int) := IntWalk.wrap64_in _ (by have := byte_bd b; omega)
theorem or_byte (x : Int) (b : UInt8) (h0 : 0 ≤ x) (h1 : x < 4294967296) : bits .or .i64 (wrap64 (x * 256)) (wrap64 (b.toNat : Int)) = x * 256 + b.toNat := by
  have hb := byte_bd b
  rw [wrap_byte, IntWalk.wrap64_in _ (by omega)]
  obtain ⟨n, rfl⟩ := Int.eq_ofNat_of_zero_le h0
  have hk : ∀ n : Int, 0 ≤ n → n < 2 ^ 62 → IntKind.i64.wrap n = n := fun n h0 h1 => by rw [IntKind.wrap_i64]; omega
  have e : ((n : Int) * 256) = ((n * 256 : Nat) : Int) := by omega
  rw [e, (bits_nat .i64 62 (by decide) hk (n * 256) b.toNat (by omega) (by have := b.toNat_lt; omega)).2, nat_join 8 _ _ (by omega) (by have := b.toNat_lt; omega)]
  omega
theorem or_zero (b : UInt8) : bits .or .i64 0 (wrap64 (b.toNat : Int)) = b.toNat := by
  have := or_byte 0 b (by omega) (by omega)
  simpa [wrap64] using this

/-- n bytes at k, as a number -/
def getV (l : List UInt8) (k : Nat) : Nat → Int
  | 0 => 0
  | n + 1 => getV l k n * 256 + (l.getD (k + n) 0).toNat
theorem getV_bd (l : List UInt8) (k n : Nat) : 0 ≤ getV l k n ∧ getV l k n < 256 ^ n := by
  induction n with
  | zero => simp [getV]
  | succ n ih =>
    have := byte_bd (l.getD (k + n) 0)
    simp only [getV, Int.pow_succ]
    omega
theorem getD_at (l : List UInt8) (i : Nat) (h : i < l.length) : l.getD i 0 = l[i] := by simp [List.getD, List.getElem?_eq_getElem h]
theorem rint2 {k k' : IntKind} {a b c : Int} (h : a = b) : Ending.returned (.tuple #[.int k a, .int k' c]) = .returned (.tuple #[.int k b, .int k' c]) := by rw [h]
def getE (l : List UInt8) (k n : Int) : Int := if ¬ (1 ≤ n ∧ n ≤ 4) ∨ k < 0 then 1 else if (l.length : Int) < k ∨ (l.length : Int) - k < n then 5 else 0
def getR (l : List UInt8) (k n : Int) : Int := if getE l k n = 0 then getV l k.toNat n.toNat else 0
theorem get_1 (l : List UInt8) (k : Nat) (w : World) (hk : k + 1 ≤ l.length) (hl : l.length ≤ 9223372036854775807) :
    Calls Try.prog 17 #[.string (B l), .int .i64 k, .int .i64 1] w fun e w' => e = .returned (.tuple #[.int .i64 (getV l k 1), .int .i64 0]) ∧ w = w' := by
  have hi : inB 1 1 4 = true := rfl
  go_enter Try.func17, Try.ntmps17
  go_wp2_with fail
  refine (in_any _ _ _ _).mono ?_
  rintro e w1 ⟨rfl, rfl⟩
  go_wp2
  refine wp_loop_rounds 2 ?_
  rw [rounds_succ]; go_wp2
  rw [rounds_succ]; go_wp2
  go_ret2
  have g0 := getD_at l (k + 0) (by omega)
  have b0 := byte_bd (l[k + 0]'(by omega))
  refine ⟨rint2 ?_, rfl⟩
  simp only [getV, g0, Nat.add_zero, Int.zero_mul, Int.zero_add] at *
  rw [or_zero]

theorem get_2 (l : List UInt8) (k : Nat) (w : World) (hk : k + 2 ≤ l.length) (hl : l.length ≤ 9223372036854775807) :
    Calls Try.prog 17 #[.string (B l), .int .i64 k, .int .i64 2] w fun e w' => e = .returned (.tuple #[.int .i64 (getV l k 2), .int .i64 0]) ∧ w = w' := by
  have hi : inB 2 1 4 = true := rfl
  go_enter Try.func17, Try.ntmps17
  go_wp2_with fail
  refine (in_any _ _ _ _).mono ?_
  rintro e w1 ⟨rfl, rfl⟩
  go_wp2
  refine wp_loop_rounds 3 ?_
  rw [rounds_succ]; go_wp2
  rw [rounds_succ]; go_wp2
  rw [rounds_succ]; go_wp2
  go_ret2
  have g0 := getD_at l (k + 0) (by omega)
  have b0 := byte_bd (l[k + 0]'(by omega))
  have g1 := getD_at l (k + 1) (by omega)
  have b1 := byte_bd (l[k + 1]'(by omega))
  refine ⟨rint2 ?_, rfl⟩
  simp only [getV, g0, g1, Nat.add_zero, Int.zero_mul, Int.zero_add] at *
  rw [or_zero]
  simp (discharger := omega) only [or_byte]

theorem get_3 (l : List UInt8) (k : Nat) (w : World) (hk : k + 3 ≤ l.length) (hl : l.length ≤ 9223372036854775807) :
    Calls Try.prog 17 #[.string (B l), .int .i64 k, .int .i64 3] w fun e w' => e = .returned (.tuple #[.int .i64 (getV l k 3), .int .i64 0]) ∧ w = w' := by
  have hi : inB 3 1 4 = true := rfl
  go_enter Try.func17, Try.ntmps17
  go_wp2_with fail
  refine (in_any _ _ _ _).mono ?_
  rintro e w1 ⟨rfl, rfl⟩
  go_wp2
  refine wp_loop_rounds 4 ?_
  rw [rounds_succ]; go_wp2
  rw [rounds_succ]; go_wp2
  rw [rounds_succ]; go_wp2
  rw [rounds_succ]; go_wp2
  go_ret2
  have g0 := getD_at l (k + 0) (by omega)
  have b0 := byte_bd (l[k + 0]'(by omega))
  have g1 := getD_at l (k + 1) (by omega)
  have b1 := byte_bd (l[k + 1]'(by omega))
  have g2 := getD_at l (k + 2) (by omega)
  have b2 := byte_bd (l[k + 2]'(by omega))
  refine ⟨rint2 ?_, rfl⟩
  simp only [getV, g0, g1, g2, Nat.add_zero, Int.zero_mul, Int.zero_add] at *
  rw [or_zero]
  simp (discharger := omega) only [or_byte]

theorem get_4 (l : List UInt8) (k : Nat) (w : World) (hk : k + 4 ≤ l.length) (hl : l.length ≤ 9223372036854775807) :
    Calls Try.prog 17 #[.string (B l), .int .i64 k, .int .i64 4] w fun e w' => e = .returned (.tuple #[.int .i64 (getV l k 4), .int .i64 0]) ∧ w = w' := by
  have hi : inB 4 1 4 = true := rfl
  go_enter Try.func17, Try.ntmps17
  go_wp2_with fail
  refine (in_any _ _ _ _).mono ?_
  rintro e w1 ⟨rfl, rfl⟩
  go_wp2
  refine wp_loop_rounds 5 ?_
  rw [rounds_succ]; go_wp2
  rw [rounds_succ]; go_wp2
  rw [rounds_succ]; go_wp2
  rw [rounds_succ]; go_wp2
  rw [rounds_succ]; go_wp2
  go_ret2
  have g0 := getD_at l (k + 0) (by omega)
  have b0 := byte_bd (l[k + 0]'(by omega))
  have g1 := getD_at l (k + 1) (by omega)
  have b1 := byte_bd (l[k + 1]'(by omega))
  have g2 := getD_at l (k + 2) (by omega)
  have b2 := byte_bd (l[k + 2]'(by omega))
  have g3 := getD_at l (k + 3) (by omega)
  have b3 := byte_bd (l[k + 3]'(by omega))
  refine ⟨rint2 ?_, rfl⟩
  simp only [getV, g0, g1, g2, g3, Nat.add_zero, Int.zero_mul, Int.zero_add] at *
  rw [or_zero]
  simp (discharger := omega) only [or_byte]

theorem rget_1 (l : List UInt8) (k : Nat) (w : World) (hk : k + 1 ≤ l.length) (hl : l.length ≤ 9223372036854775807) :
    Calls Try.prog 18 #[.string (B l), .int .i64 k, .int .i64 1] w fun e w' => e = .returned (.tuple #[.int .i64 (getV l k 1), .int .i64 0]) ∧ w = w' := by
  go_enter Try.func18, Try.ntmps18
  go_wp2
  refine wp_loop_rounds 2 ?_
  rw [rounds_succ]; go_wp2
  rw [rounds_succ]; go_wp2
  go_ret2
  have g0 := getD_at l (k + 0) (by omega)
  have b0 := byte_bd (l[k + 0]'(by omega))
  refine ⟨rint2 ?_, rfl⟩
  simp only [getV, g0, Nat.add_zero, Int.zero_mul, Int.zero_add] at *
  simp (discharger := omega) only [IntWalk.wrap64_in]

theorem rget_2 (l : List UInt8) (k : Nat) (w : World) (hk : k + 2 ≤ l.length) (hl : l.length ≤ 9223372036854775807) :
    Calls Try.prog 18 #[.string (B l), .int .i64 k, .int .i64 2] w fun e w' => e = .returned (.tuple #[.int .i64 (getV l k 2), .int .i64 0]) ∧ w = w' := by
  go_enter Try.func18, Try.ntmps18
  go_wp2
  refine wp_loop_rounds 3 ?_
  rw [rounds_succ]; go_wp2
  rw [rounds_succ]; go_wp2
  rw [rounds_succ]; go_wp2
  go_ret2
  have g0 := getD_at l (k + 0) (by omega)
  have b0 := byte_bd (l[k + 0]'(by omega))
  have g1 := getD_at l (k + 1) (by omega)
  have b1 := byte_bd (l[k + 1]'(by omega))
  refine ⟨rint2 ?_, rfl⟩
  simp only [getV, g0, g1, Nat.add_zero, Int.zero_mul, Int.zero_add] at *
  simp (discharger := omega) only [IntWalk.wrap64_in]

theorem rget_3 (l : List UInt8) (k : Nat) (w : World) (hk : k + 3 ≤ l.length) (hl : l.length ≤ 9223372036854775807) :
    Calls Try.prog 18 #[.string (B l), .int .i64 k, .int .i64 3] w fun e w' => e = .returned (.tuple #[.int .i64 (getV l k 3), .int .i64 0]) ∧ w = w' := by
  go_enter Try.func18, Try.ntmps18
  go_wp2
  refine wp_loop_rounds 4 ?_
  rw [rounds_succ]; go_wp2
  rw [rounds_succ]; go_wp2
  rw [rounds_succ]; go_wp2
  rw [rounds_succ]; go_wp2
  go_ret2
  have g0 := getD_at l (k + 0) (by omega)
  have b0 := byte_bd (l[k + 0]'(by omega))
  have g1 := getD_at l (k + 1) (by omega)
  have b1 := byte_bd (l[k + 1]'(by omega))
  have g2 := getD_at l (k + 2) (by omega)
  have b2 := byte_bd (l[k + 2]'(by omega))
  refine ⟨rint2 ?_, rfl⟩
  simp only [getV, g0, g1, g2, Nat.add_zero, Int.zero_mul, Int.zero_add] at *
  simp (discharger := omega) only [IntWalk.wrap64_in]

theorem rget_4 (l : List UInt8) (k : Nat) (w : World) (hk : k + 4 ≤ l.length) (hl : l.length ≤ 9223372036854775807) :
    Calls Try.prog 18 #[.string (B l), .int .i64 k, .int .i64 4] w fun e w' => e = .returned (.tuple #[.int .i64 (getV l k 4), .int .i64 0]) ∧ w = w' := by
  go_enter Try.func18, Try.ntmps18
  go_wp2
  refine wp_loop_rounds 5 ?_
  rw [rounds_succ]; go_wp2
  rw [rounds_succ]; go_wp2
  rw [rounds_succ]; go_wp2
  rw [rounds_succ]; go_wp2
  rw [rounds_succ]; go_wp2
  go_ret2
  have g0 := getD_at l (k + 0) (by omega)
  have b0 := byte_bd (l[k + 0]'(by omega))
  have g1 := getD_at l (k + 1) (by omega)
  have b1 := byte_bd (l[k + 1]'(by omega))
  have g2 := getD_at l (k + 2) (by omega)
  have b2 := byte_bd (l[k + 2]'(by omega))
  have g3 := getD_at l (k + 3) (by omega)
  have b3 := byte_bd (l[k + 3]'(by omega))
  refine ⟨rint2 ?_, rfl⟩
  simp only [getV, g0, g1, g2, g3, Nat.add_zero, Int.zero_mul, Int.zero_add] at *
  simp (discharger := omega) only [IntWalk.wrap64_in]


theorem get_err (l : List UInt8) (k n : Int) (w : World) (hl : l.length ≤ 9223372036854775807) (k0 : -9223372036854775808 ≤ k) (k1 : k ≤ 9223372036854775807) (h : getE l k n ≠ 0) :
    Calls Try.prog 17 #[.string (B l), .int .i64 k, .int .i64 n] w fun e w' => e = .returned (.tuple #[.int .i64 0, .int .i64 (getE l k n)]) ∧ w = w' := by
  by_cases hn : 1 ≤ n ∧ n ≤ 4
  · have hi : inB n 1 4 = true := by simp [inB]; omega
    by_cases hk : k < 0
    · have e : getE l k n = 1 := by unfold getE; rw [if_pos (by omega)]
      rw [e]; clear e h hn
      go_enter Try.func17, Try.ntmps17
      go_wp2_with fail
      refine (in_any _ _ _ _).mono ?_
      rintro e w1 ⟨rfl, rfl⟩
      go_wp2
      go_ret2
      exact ⟨rfl, rfl⟩
    · have e : getE l k n = 5 := by
        have h2 : (l.length : Int) < k ∨ (l.length : Int) - k < n := by
          apply Classical.byContradiction
          intro hc
          apply h
          unfold getE; rw [if_neg (by omega), if_neg hc]
        unfold getE; rw [if_neg (by omega), if_pos h2]
      have h2 : (l.length : Int) < k ∨ (l.length : Int) - k < n := by
        apply Classical.byContradiction
        intro hc
        apply h
        unfold getE; rw [if_neg (by omega), if_neg hc]
      rw [e]; clear e h
      by_cases h3 : (l.length : Int) < k
      · clear h2
        go_enter Try.func17, Try.ntmps17
        go_wp2_with fail
        refine (in_any _ _ _ _).mono ?_
        rintro e w1 ⟨rfl, rfl⟩
        go_wp2
        go_ret2
        exact ⟨rfl, rfl⟩
      · have h4 : (l.length : Int) - k < n := by omega
        clear h2
        go_enter Try.func17, Try.ntmps17
        go_wp2_with fail
        refine (in_any _ _ _ _).mono ?_
        rintro e w1 ⟨rfl, rfl⟩
        go_wp2
        go_ret2
        exact ⟨rfl, rfl⟩
  · have hi : inB n 1 4 = false := by simp [inB]; omega
    have e : getE l k n = 1 := by unfold getE; rw [if_pos (by omega)]
    rw [e]; clear e h hn
    go_enter Try.func17, Try.ntmps17
    go_wp2_with fail
    refine (in_any _ _ _ _).mono ?_
    rintro e w1 ⟨rfl, rfl⟩
    go_wp2
    go_ret2
    exact ⟨rfl, rfl⟩

theorem rget_err (l : List UInt8) (k n : Int) (w : World) (hl : l.length ≤ 9223372036854775807) (k0 : -9223372036854775808 ≤ k) (k1 : k ≤ 9223372036854775807) (h : getE l k n ≠ 0) :
    Calls Try.prog 18 #[.string (B l), .int .i64 k, .int .i64 n] w fun e w' => e = .returned (.tuple #[.int .i64 0, .int .i64 (getE l k n)]) ∧ w = w' := by
  by_cases hn : n < 1 ∨ 4 < n ∨ k < 0
  · have e : getE l k n = 1 := by unfold getE; rw [if_pos (by omega)]
    rw [e]; clear e h
    by_cases h1 : n < 1
    · clear hn
      go_enter Try.func18, Try.ntmps18
      go_wp2
      go_ret2
      exact ⟨rfl, rfl⟩
    by_cases h2 : 4 < n
    · clear hn
      go_enter Try.func18, Try.ntmps18
      go_wp2
      go_ret2
      exact ⟨rfl, rfl⟩
    have h3 : k < 0 := by omega
    clear hn
    go_enter Try.func18, Try.ntmps18
    go_wp2
    go_ret2
    exact ⟨rfl, rfl⟩
  · have h2 : (l.length : Int) < k ∨ (l.length : Int) - k < n := by
      apply Classical.byContradiction
      intro hc
      apply h
      unfold getE; rw [if_neg (by omega), if_neg hc]
    have e : getE l k n = 5 := by unfold getE; rw [if_neg (by omega), if_pos h2]
    rw [e]; clear e h
    have n1 : 1 ≤ n := by omega
    have n4 : n ≤ 4 := by omega
    have kk : 0 ≤ k := by omega
    clear hn
    by_cases h3 : (l.length : Int) < k
    · clear h2
      go_enter Try.func18, Try.ntmps18
      go_wp2
      go_ret2
      exact ⟨rfl, rfl⟩
    · have h4 : (l.length : Int) - k < n := by omega
      clear h2
      go_enter Try.func18, Try.ntmps18
      go_wp2
      go_ret2
      exact ⟨rfl, rfl⟩

theorem get_any (l : List UInt8) (k n : Int) (w : World) (hl : l.length ≤ 9223372036854775807) (k0 : -9223372036854775808 ≤ k) (k1 : k ≤ 9223372036854775807) :
    Calls Try.prog 17 #[.string (B l), .int .i64 k, .int .i64 n] w fun e w' => e = .returned (.tuple #[.int .i64 (getR l k n), .int .i64 (getE l k n)]) ∧ w = w' := by
  by_cases h : getE l k n = 0
  · have h1 : 1 ≤ n ∧ n ≤ 4 ∧ 0 ≤ k ∧ k + n ≤ l.length := by
      unfold getE at h
      split at h
      · simp at h
      · split at h
        · simp at h
        · omega
    obtain ⟨h1, h2, h3, h4⟩ := h1
    unfold getR
    rw [h, if_pos rfl]
    obtain ⟨k, rfl⟩ := Int.eq_ofNat_of_zero_le h3
    obtain rfl | rfl | rfl | rfl : n = 1 ∨ n = 2 ∨ n = 3 ∨ n = 4 := by omega
    · exact get_1 l k w (by omega) hl
    · exact get_2 l k w (by omega) hl
    · exact get_3 l k w (by omega) hl
    · exact get_4 l k w (by omega) hl
  · unfold getR
    rw [if_neg h]
    exact get_err l k n w hl k0 k1 h

theorem rget_any (l : List UInt8) (k n : Int) (w : World) (hl : l.length ≤ 9223372036854775807) (k0 : -9223372036854775808 ≤ k) (k1 : k ≤ 9223372036854775807) :
    Calls Try.prog 18 #[.string (B l), .int .i64 k, .int .i64 n] w fun e w' => e = .returned (.tuple #[.int .i64 (getR l k n), .int .i64 (getE l k n)]) ∧ w = w' := by
  by_cases h : getE l k n = 0
  · have h1 : 1 ≤ n ∧ n ≤ 4 ∧ 0 ≤ k ∧ k + n ≤ l.length := by
      unfold getE at h
      split at h
      · simp at h
      · split at h
        · simp at h
        · omega
    obtain ⟨h1, h2, h3, h4⟩ := h1
    unfold getR
    rw [h, if_pos rfl]
    obtain ⟨k, rfl⟩ := Int.eq_ofNat_of_zero_le h3
    obtain rfl | rfl | rfl | rfl : n = 1 ∨ n = 2 ∨ n = 3 ∨ n = 4 := by omega
    · exact rget_1 l k w (by omega) hl
    · exact rget_2 l k w (by omega) hl
    · exact rget_3 l k w (by omega) hl
    · exact rget_4 l k w (by omega) hl
  · unfold getR
    rw [if_neg h]
    exact rget_err l k n w hl k0 k1 h

end Go.Proofs.Ytmdgilhjiooalaa
