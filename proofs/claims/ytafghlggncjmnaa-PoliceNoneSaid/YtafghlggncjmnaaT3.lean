import Derived.Test.YtafghlggncjmnaaT2
namespace Go.Proofs.Ytafghlggncjmnaa
open Go.RowKit

theorem pass_to (b : Nat) (s s' : Bk) (n : Int) (r : Bool) (w : World) (hB : Blk w b s.cs 42) (ok : s.ok)
  (n0 : -9223372036854775808 ≤ n) (n1 : n ≤ 9223372036854775807) (hr : s.passes n = r) (hs : s.pass n = s') :
    Calls Try.prog 12 #[.pointer (some ⟨b, 0, none⟩), .int .i64 n] w fun e w' => e = .returned (.bool r) ∧ Blk w' b s'.cs 42 ∧ Fr [b] w w' := by
  subst hr; subst hs
  exact pass_any b s n w hB ok n0 n1
theorem tick_to (b : Nat) (s s' : Bk) (n : Int) (w : World) (hB : Blk w b s.cs 42) (ok : s.ok)
  (n0 : -9223372036854775808 ≤ n) (n1 : n ≤ 9223372036854775807) (hs : s.tick n = s') :
    Calls Try.prog 10 #[.pointer (some ⟨b, 0, none⟩), .int .i64 n] w fun e w' => e = .returned (.tuple #[]) ∧ Blk w' b s'.cs 42 ∧ Fr [b] w w' := by
  subst hs
  exact tick_any b s n w hB ok n0 n1
theorem new_any (r u : Int) (w : World) (h : argOk r u = true) :
    Calls Try.prog 8 #[.int .i64 r, .int .i64 u] w fun e w' => ∃ b, e = .returned (.tuple #[.pointer (some ⟨b, 0, none⟩), .int .i64 0]) ∧ w.heap.size ≤ b ∧ Blk w' b (Bk.cs ⟨r, u, u, 0, 0⟩) 42 ∧ Fr [] w w' :=
  (new_ok r u w h).mono fun _ _ ⟨he, hw⟩ => ⟨_, he, Nat.le_refl _, by rw [hw]; exact Blk.new _ _ _, by rw [hw]; exact (Fr.refl _ _).alloc _⟩
theorem rnew_any (r u : Int) (w : World) (h : argOk r u = true) :
    Calls Try.prog 9 #[.int .i64 r, .int .i64 u] w fun e w' => ∃ b, e = .returned (.tuple #[.pointer (some ⟨b, 0, none⟩), .int .i64 0]) ∧ w.heap.size ≤ b ∧ Blk w' b (Bk.cs ⟨r, u, u, 0, 0⟩) 39 ∧ Fr [] w w' :=
  (rnew_ok r u w h).mono fun _ _ ⟨he, hw⟩ => ⟨_, he, Nat.le_refl _, by rw [hw]; exact Blk.new _ _ _, by rw [hw]; exact (Fr.refl _ _).alloc _⟩

theorem Bk.ok_pass {s : Bk} (h : s.ok) {n : Int} : (s.pass n).ok := by
  obtain ⟨r, u, l, p, h⟩ := s
  obtain ⟨r0, r1, l0, l1, u1, p0, p1, h0, h1⟩ := h
  simp only at r0 r1 l0 l1 u1 p0 p1 h0 h1
  unfold Bk.pass
  split
  · exact ⟨r0, r1, l0, l1, u1, p0, p1, h0, h1⟩
  · split
    · have := padd_bd h n h0 (by omega) h1
      exact ⟨r0, r1, l0, l1, u1, p0, p1, this.1, this.2⟩
    · have := padd_bd p n p0 (by omega) p1
      exact ⟨r0, r1, by simp only at *; omega, by simp only at *; omega, u1, this.1, this.2, h0, h1⟩
theorem Bk.ok_tick {s : Bk} (h : s.ok) {n : Int} : (s.tick n).ok := by
  obtain ⟨r, u, l, p, h⟩ := s
  obtain ⟨r0, r1, l0, l1, u1, p0, p1, h0, h1⟩ := h
  simp only at r0 r1 l0 l1 u1 p0 p1 h0 h1
  unfold Bk.tick
  by_cases hn : 0 < n
  · have : 0 ≤ r * n := Int.mul_nonneg r0 (by omega)
    simp only [if_pos hn]
    exact ⟨r0, r1, by simp only; omega, by simp only; omega, u1, p0, p1, h0, h1⟩
  · simp only [if_neg hn]
    exact ⟨r0, r1, l0, l1, u1, p0, p1, h0, h1⟩
theorem Bk.ok_new {r u : Int} (h : argOk r u = true) : Bk.ok ⟨r, u, u, 0, 0⟩ := by
  simp only [argOk, decide_eq_true_eq] at h
  exact ⟨h.1, h.2.1, h.2.2.1, Int.le_refl _, h.2.2.2, by simp, by simp, by simp, by simp⟩

theorem alive_any (w : World) : Calls Try.prog 7 #[] w fun e w' => e = .returned (.bool true) ∧ Fr [] w w' := by
  go_enter Try.func7, Try.ntmps7
  go_wp2_with fail
  refine (new_any 10 25 w rfl).mono ?_
  rintro e w1 ⟨b, rfl, hb, hB, hF⟩
  have ok1 : Bk.ok ⟨10, 25, 25, 0, 0⟩ := Bk.ok_new rfl
  go_wp2_with fail
  refine (pass_to b ⟨10, 25, 25, 0, 0⟩ ⟨10, 25, 5, 20, 0⟩ 20 true w1 hB ok1 (by omega) (by omega) rfl rfl).mono ?_
  rintro e w2 ⟨rfl, hB2, hF2⟩
  have ok2 : Bk.ok ⟨10, 25, 5, 20, 0⟩ := Bk.ok_pass (n := 20) ok1
  go_wp2_with fail
  refine (pass_to b ⟨10, 25, 5, 20, 0⟩ ⟨10, 25, 5, 20, 6⟩ 6 false w2 hB2 ok2 (by omega) (by omega) rfl rfl).mono ?_
  rintro e w3 ⟨rfl, hB3, hF3⟩
  have ok3 : Bk.ok ⟨10, 25, 5, 20, 6⟩ := Bk.ok_pass (n := 6) ok2
  go_wp2_with fail
  refine (tick_to b ⟨10, 25, 5, 20, 6⟩ ⟨10, 25, 15, 20, 6⟩ 1 w3 hB3 ok3 (by omega) (by omega) rfl).mono ?_
  rintro e w4 ⟨rfl, hB4, hF4⟩
  have ok4 : Bk.ok ⟨10, 25, 15, 20, 6⟩ := Bk.ok_tick (n := 1) ok3
  go_wp2_with fail
  refine (pass_to b ⟨10, 25, 15, 20, 6⟩ ⟨10, 25, 0, 35, 6⟩ 15 true w4 hB4 ok4 (by omega) (by omega) rfl rfl).mono ?_
  rintro e w5 ⟨rfl, hB5, hF5⟩
  go_wp2_with fail
  refine (counts_any b _ w5 hB5).mono ?_
  rintro e w6 ⟨rfl, n6, rfl⟩
  go_wp2_with fail
  refine (left_any b _ _ (hB5.drewN _)).mono ?_
  rintro e w7 ⟨rfl, rfl⟩
  go_wp2
  go_ret
  exact ⟨rfl, (hF.sub ((hF2.trans (hF3.trans (hF4.trans hF5))).drewN n6) (by simp; omega))⟩
end Go.Proofs.Ytafghlggncjmnaa
