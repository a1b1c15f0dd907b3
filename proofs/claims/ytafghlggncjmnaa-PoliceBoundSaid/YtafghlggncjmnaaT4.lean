/- The walks of the four laws of chapter 24. -/
import Derived.Test.YtafghlggncjmnaaT3
import Derived.Test.YtafghlggncjmnaaLaw
namespace Go.Proofs.Ytafghlggncjmnaa
open Go.RowKit
set_option linter.unusedVariables false

theorem policeNone_walk (w : World) (n : Int) (n0 : -9223372036854775808 ≤ n) (n1 : n ≤ 9223372036854775807) :
    Calls Try.prog 5 #[.int .i64 n] w fun e w' => e = .returned (.bool true) ∧ Below w.heap.size w w' := by
  have hz : Blk (w.alloc (.cells (Bk.cs ⟨0, 0, 0, 0, 0⟩) 42 (0, 0))) w.heap.size (Bk.cs ⟨0, 0, 0, 0, 0⟩) 42 := Blk.new _ _ _
  have ok0 : Bk.ok ⟨0, 0, 0, 0, 0⟩ := Bk.ok_new rfl
  have et : Bk.tick ⟨0, 0, 0, 0, 0⟩ n = ⟨0, 0, 0, 0, 0⟩ := by unfold Bk.tick; split <;> simp
  have ep : Bk.passes ⟨0, 0, 0, 0, 0⟩ n = decide (n = 0) := by unfold Bk.passes; rw [Bool.eq_iff_iff]; simp; omega
  go_enter Try.func5, Try.ntmps5
  go_wp2_with fail
  refine (tick_nil n _).mono ?_
  rintro e w1 ⟨rfl, rfl⟩
  go_wp2_with fail
  refine (tick_to w.heap.size ⟨0, 0, 0, 0, 0⟩ ⟨0, 0, 0, 0, 0⟩ n _ hz ok0 n0 n1 et).mono ?_
  rintro e w2 ⟨rfl, hB, hF⟩
  clear et
  go_wp2_with fail
  refine (alive_any _).mono ?_
  rintro e w3 ⟨rfl, hF3⟩
  have hB3 := hF3.blk hB (by simp)
  by_cases hn : n = 0
  · subst hn
    go_wp2_with fail
    refine (pass_nil _ _).mono ?_
    rintro e w4 ⟨rfl, rfl⟩
    go_wp2_with fail
    refine (pass_to w.heap.size ⟨0, 0, 0, 0, 0⟩ ⟨0, 0, 0, 0, 0⟩ 0 true _ hB3 ok0 n0 n1 rfl rfl).mono ?_
    rintro e w5 ⟨rfl, hB5, hF5⟩
    go_wp2_with fail
    refine (left_nil _).mono ?_
    rintro e w6 ⟨rfl, rfl⟩
    go_wp2_with fail
    refine (left_any _ _ _ hB5).mono ?_
    rintro e w7 ⟨rfl, rfl⟩
    go_wp2
    go_ret
    have f0 : Fr [] w (w.alloc (.cells (Bk.cs ⟨0, 0, 0, 0, 0⟩) 42 (0, 0))) := (Fr.refl _ _).alloc _
    exact ⟨rfl, (((f0.sub hF (by simp)).sub hF3 (by simp)).sub hF5 (by simp)).below (Nat.le_refl _) (by simp)⟩
  · have hd : (n == 0) = false := by simpa using hn
    go_wp2_with fail
    refine (pass_nil _ _).mono ?_
    rintro e w4 ⟨rfl, rfl⟩
    go_wp2_with fail
    have ep' : Bk.passes ⟨0, 0, 0, 0, 0⟩ n = false := by rw [ep]; simpa using hn
    have es : Bk.pass ⟨0, 0, 0, 0, 0⟩ n = if n < 0 then ⟨0, 0, 0, 0, 0⟩ else ⟨0, 0, 0, 0, padd 0 n⟩ := by
      unfold Bk.pass
      split
      · rfl
      · rw [if_pos (by simp; omega)]
    obtain ⟨h, eh⟩ : ∃ h, Bk.pass ⟨0, 0, 0, 0, 0⟩ n = ⟨0, 0, 0, 0, h⟩ := by
      rw [es]; split <;> exact ⟨_, rfl⟩
    refine (pass_to w.heap.size ⟨0, 0, 0, 0, 0⟩ ⟨0, 0, 0, 0, h⟩ n false _ hB3 ok0 n0 n1 ep' eh).mono ?_
    clear ep ep' es eh
    rintro e w5 ⟨rfl, hB5, hF5⟩
    go_wp2_with fail
    refine (left_nil _).mono ?_
    rintro e w6 ⟨rfl, rfl⟩
    go_wp2_with fail
    refine (left_any _ _ _ hB5).mono ?_
    rintro e w7 ⟨rfl, rfl⟩
    go_wp2
    go_ret
    have f0 : Fr [] w (w.alloc (.cells (Bk.cs ⟨0, 0, 0, 0, 0⟩) 42 (0, 0))) := (Fr.refl _ _).alloc _
    exact ⟨rfl, (((f0.sub hF (by simp)).sub hF3 (by simp)).sub hF5 (by simp)).below (Nat.le_refl _) (by simp)⟩

theorem tick_tick (s : Bk) (ok : s.ok) (n m : Int) (hn : 0 ≤ n) (hm : 0 ≤ m) : s.tick (n + m) = (s.tick n).tick m := by
  obtain ⟨r, u, l, p, h⟩ := s
  have r0 : 0 ≤ r := ok.r0
  have l1 : l ≤ u := ok.l1
  have e : r * (n + m) = r * n + r * m := Int.mul_add ..
  have p1 : 0 ≤ r * n := Int.mul_nonneg r0 hn
  have p2 : 0 ≤ r * m := Int.mul_nonneg r0 hm
  unfold Bk.tick
  simp only [Bk.mk.injEq, true_and, and_true]
  by_cases h1 : 0 < n <;> by_cases h2 : 0 < m
  · simp only [if_pos h1, if_pos h2, if_pos (show 0 < n + m by omega)]; omega
  · have : m = 0 := by omega
    subst this
    simp only [Int.add_zero, if_pos h1, if_neg h2]
  · have : n = 0 := by omega
    subst this
    simp only [Int.zero_add, if_neg h1, if_pos h2]
  · simp only [if_neg h1, if_neg h2, if_neg (show ¬ 0 < n + m by omega)]
theorem pass_ru (s : Bk) (n : Int) : (s.pass n).r = s.r ∧ (s.pass n).u = s.u := by unfold Bk.pass; repeat (first | split | exact ⟨rfl, rfl⟩)
theorem tick_ru (s : Bk) (n : Int) : (s.tick n).r = s.r ∧ (s.tick n).u = s.u := ⟨rfl, rfl⟩
theorem tick_full (s : Bk) (ok : s.ok) (hr : s.r ≠ 0) : (s.tick 1000000000).l = s.u := by
  have r0 := ok.r0; have l0 := ok.l0; have l1 := ok.l1; have u1 := ok.u1
  have : 1 * 1000000000 ≤ s.r * 1000000000 := Int.mul_le_mul_of_nonneg_right (by omega) (by omega)
  simp only [Bk.tick]
  rw [if_pos (by omega)]; omega

theorem policeFills_walk (w : World) (r : Int) (r0 : -9223372036854775808 ≤ r) (r1 : r ≤ 9223372036854775807) (u : Int) (u0 : -9223372036854775808 ≤ u) (u1 : u ≤ 9223372036854775807)
    (n : Int) (n0 : -9223372036854775808 ≤ n) (n1 : n ≤ 9223372036854775807) (m : Int) (m0 : -9223372036854775808 ≤ m) (m1 : m ≤ 9223372036854775807)
    (t : Int) (t0 : -9223372036854775808 ≤ t) (t1 : t ≤ 9223372036854775807) :
    Calls Try.prog 6 #[.int .i64 r, .int .i64 u, .int .i64 n, .int .i64 m, .int .i64 t] w fun e w' => e = .returned (.bool true) ∧ Below w.heap.size w w' := by
  cases hA : argOk r u with
  | false =>
    have HA := Lib.hid hA
    clear hA
    go_enter Try.func6, Try.ntmps6
    go_wp2_with fail
    refine (new_no r u _ HA.out).mono ?_
    rintro e w1 ⟨rfl, rfl⟩
    go_wp2_with fail
    refine (new_no r u _ HA.out).mono ?_
    rintro e w1 ⟨rfl, rfl⟩
    go_wp2_with fail
    refine (alive_any _).mono ?_
    rintro e w1 ⟨rfl, hF⟩
    go_wp2
    go_ret
    exact ⟨rfl, hF.below (Nat.le_refl _) (by simp)⟩
  | true =>
    have ok : Bk.ok ⟨r, u, u, 0, 0⟩ := Bk.ok_new hA
    have HA := Lib.hid hA
    clear hA
    go_enter Try.func6, Try.ntmps6
    go_wp2_with fail
    refine (new_any r u _ HA.out).mono ?_
    rintro e w1 ⟨a, rfl, ha, hBa, hF1⟩
    go_wp2_with fail
    refine (new_any r u _ HA.out).mono ?_
    rintro e w2 ⟨b, rfl, hb, hBb, hF2⟩
    have f2 : Fr [] w w2 := hF1.trans hF2
    have hb0 : w.heap.size ≤ b := by have := hF1.size; omega
    have hab : a ≠ b := by have := hBa.lt; omega
    have hba : b ≠ a := fun e => hab e.symm
    have hBa2 := hF2.blk hBa (by simp)
    by_cases hbad : n < 0 ∨ m < 0 ∨ 1000000 < n ∨ 1000000 < m
    · by_cases h1 : n < 0
      · go_wp2_with fail
        refine (alive_any _).mono ?_
        rintro e w3 ⟨rfl, hF⟩
        go_wp2
        go_ret
        exact ⟨rfl, (f2.trans hF).below (Nat.le_refl _) (by simp)⟩
      by_cases h2 : m < 0
      · go_wp2_with fail
        refine (alive_any _).mono ?_
        rintro e w3 ⟨rfl, hF⟩
        go_wp2
        go_ret
        exact ⟨rfl, (f2.trans hF).below (Nat.le_refl _) (by simp)⟩
      by_cases h3 : 1000000 < n
      · go_wp2_with fail
        refine (alive_any _).mono ?_
        rintro e w3 ⟨rfl, hF⟩
        go_wp2
        go_ret
        exact ⟨rfl, (f2.trans hF).below (Nat.le_refl _) (by simp)⟩
      have h4 : 1000000 < m := by omega
      clear hbad
      go_wp2_with fail
      refine (alive_any _).mono ?_
      rintro e w3 ⟨rfl, hF⟩
      go_wp2
      go_ret
      exact ⟨rfl, (f2.trans hF).below (Nat.le_refl _) (by simp)⟩
    · have h1 : 0 ≤ n := by omega
      have h2 : 0 ≤ m := by omega
      have h3 : n ≤ 1000000 := by omega
      have h4 : m ≤ 1000000 := by omega
      clear hbad
      obtain ⟨s, hs⟩ : ∃ s, Bk.pass ⟨r, u, u, 0, 0⟩ t = s := ⟨_, rfl⟩
      obtain ⟨q, hq⟩ : ∃ q, Bk.passes ⟨r, u, u, 0, 0⟩ t = q := ⟨_, rfl⟩
      have oks : s.ok := hs ▸ Bk.ok_pass ok
      have sr : s.r = r := hs ▸ (pass_ru _ _).1
      have su : s.u = u := hs ▸ (pass_ru _ _).2
      have Hs := Lib.hid hs
      have Hq := Lib.hid hq
      have Sr := Lib.hid sr
      have Su := Lib.hid su
      clear hs hq sr su
      go_wp2_with fail
      refine (pass_to a _ s t q _ hBa2 ok t0 t1 Hq.out Hs.out).mono ?_
      rintro e w3 ⟨rfl, hBa3, hF3⟩
      have hBb3 := hF3.blk hBb (by simpa using hba)
      go_wp2_with fail
      refine (pass_to b _ s t q _ hBb3 ok t0 t1 Hq.out Hs.out).mono ?_
      rintro e w4 ⟨rfl, hBb4, hF4⟩
      have hBa4 := hF4.blk hBa3 (by simpa using hab)
      have f4 : Fr [] w w4 := (f2.sub hF3 (by simp; omega)).sub hF4 (by simp; have := hF1.size; omega)
      clear hF1 hF2 hF3 hF4
      go_wp2_with fail
      refine (tick_to a s (s.tick n) n _ hBa4 oks n0 n1 rfl).mono ?_
      rintro e w5 ⟨rfl, hBa5, hF5⟩
      have hBb5 := hF5.blk hBb4 (by simpa using hba)
      go_wp2_with fail
      refine (tick_to a (s.tick n) ((s.tick n).tick m) m _ hBa5 (Bk.ok_tick oks) m0 m1 rfl).mono ?_
      rintro e w6 ⟨rfl, hBa6, hF6⟩
      have hBb6 := hF6.blk hBb5 (by simpa using hba)
      go_wp2_with fail
      refine (tick_to b s ((s.tick n).tick m) (n + m) _ hBb6 oks (by omega) (by omega) (tick_tick s oks n m h1 h2)).mono ?_
      rintro e w7 ⟨rfl, hBb7, hF7⟩
      have hBa7 := hF7.blk hBa6 (by simpa using hab)
      go_wp2_with fail
      refine (left_any _ _ _ hBa7).mono ?_
      rintro e w8 ⟨rfl, rfl⟩
      go_wp2_with fail
      refine (left_any _ _ _ hBb7).mono ?_
      rintro e w8 ⟨rfl, rfl⟩
      go_wp2_with fail
      have okl : Bk.ok ((s.tick n).tick m) := Bk.ok_tick (Bk.ok_tick oks)
      refine (tick_to a _ _ 1000000000 _ hBa7 okl (by omega) (by omega) rfl).mono ?_
      rintro e w8 ⟨rfl, hBa8, hF8⟩
      have f8 : Fr [] w w8 := (((f4.sub hF5 (by simp; omega)).sub hF6 (by simp; omega)).sub hF7 (by simp; omega)).sub hF8 (by simp; omega)
      clear hF5 hF6 hF7 hF8
      go_wp2_with fail
      refine (alive_any _).mono ?_
      rintro e w9 ⟨rfl, hF9⟩
      have hBa9 := hF9.blk hBa8 (by simp)
      by_cases hr : r = 0
      · subst hr
        go_wp2
        go_ret
        exact ⟨rfl, (f8.trans hF9).below (Nat.le_refl _) (by simp)⟩
      · have hd : (r == 0) = false := by simpa using hr
        have hl : (((s.tick n).tick m).tick 1000000000).l = u := by
          rw [tick_full _ okl (by show s.r ≠ 0; rw [Sr.out]; exact hr)]
          exact Su.out
        have Hl := Lib.hid hl
        clear hl
        go_wp2_with fail
        refine (left_any _ _ _ hBa9).mono ?_
        rintro e w10 ⟨rfl, rfl⟩
        rw [Hl.out]
        go_wp2
        go_ret
        exact ⟨rfl, (f8.trans hF9).below (Nat.le_refl _) (by simp)⟩

end Go.Proofs.Ytafghlggncjmnaa
