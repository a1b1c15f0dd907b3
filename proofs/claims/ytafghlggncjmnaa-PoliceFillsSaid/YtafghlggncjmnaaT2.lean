import Derived.Test.YtafghlggncjmnaaT1
namespace Go.Proofs.Ytafghlggncjmnaa
open Go.RowKit
set_option linter.unusedVariables false

theorem tick_step (r u l p h m k : Int) (hr : 0 < r) (hk : 0 < k) (hkm : k ≤ m) :
    Bk.tick ⟨r, u, min u (l + r * k), p, h⟩ (m - k) = Bk.tick ⟨r, u, l, p, h⟩ m := by
  have e : r * (m - k) = r * m - r * k := Int.mul_sub ..
  have p1 : 0 < r * k := Int.mul_pos hr hk
  have p2 : 0 ≤ r * (m - k) := Int.mul_nonneg (by omega) (by omega)
  unfold Bk.tick
  simp only [Bk.mk.injEq, true_and, and_true]
  by_cases hz : 0 < m - k
  · rw [if_pos hz, if_pos (by omega)]; omega
  · rw [if_neg hz, if_pos (by omega)]
    have : m - k = 0 := by omega
    rw [this] at e; simp at e; omega
theorem tick_stop (r u l p h m : Int) (hc : ¬ (0 < m ∧ 0 < r ∧ l < u)) (h0 : 0 ≤ r) (h1 : l ≤ u) :
    Bk.tick ⟨r, u, l, p, h⟩ m = ⟨r, u, l, p, h⟩ := by
  unfold Bk.tick
  simp only [Bk.mk.injEq, true_and, and_true]
  by_cases hz : 0 < m
  · rw [if_pos hz]
    by_cases hr : 0 < r
    · have : 0 < r * m := Int.mul_pos hr hz
      omega
    · have : r = 0 := by omega
      subst this; simp; omega
  · rw [if_neg hz]

theorem rtick_any (b : Nat) (s : Bk) (n : Int) (w : World) (hB : Blk w b s.cs 39) (ok : s.ok)
  (n0 : -9223372036854775808 ≤ n) (n1 : n ≤ 9223372036854775807) :
    Calls Try.prog 11 #[.pointer (some ⟨b, 0, none⟩), .int .i64 n] w fun e w' => e = .returned (.tuple #[]) ∧
      Blk w' b (s.tick n).cs 39 ∧ Fr [b] w w' := by
  obtain ⟨r, u, l, p, h⟩ := s
  obtain ⟨r0, r1, l0, l1, u1, p0, p1, h0, h1⟩ := ok
  simp only at r0 r1 l0 l1 u1 p0 p1 h0 h1
  go_enter Try.func11, Try.ntmps11
  go_wp2
  go_loopw [1] (fun v wr => ∃ m l' : Int, v = .int .i64 m ∧ -9223372036854775808 ≤ m ∧ m ≤ 9223372036854775807 ∧ l ≤ l' ∧ l' ≤ u ∧ Blk wr b (Bk.cs ⟨r, u, l', p, h⟩) 39 ∧ Fr [b] w wr ∧ Hid (Bk.tick ⟨r, u, l', p, h⟩ m = Bk.tick ⟨r, u, l, p, h⟩ n)) (fun v _ => (intOf v).toNat)
  case atStart => exact ⟨n, l, rfl, n0, n1, Int.le_refl _, l1, hB, Fr.refl _ _, rfl⟩
  case round =>
    obtain ⟨m, l', rfl, m0, m1, l2, l3, hW, hF, hE⟩ := hrel
    have c0 := hW.c 0 (.int .i64 r) rfl
    have c1 := hW.c 1 (.int .i64 u) rfl
    have c2 := hW.c 2 (.int .i64 l') rfl
    have f2 := hW.fz 2
    by_cases hc : 0 < m ∧ 0 < r ∧ l' < u
    · obtain ⟨hm, hr, hl⟩ := hc
      have hk1 : ∃ k : Int, k = (if 1000000 < m then 1000000 else m) ∧ 0 < k ∧ k ≤ m ∧ k ≤ 1000000 := ⟨_, rfl, by split <;> omega, by split <;> omega, by split <;> omega⟩
      obtain ⟨k, hk, k0, k1, k2⟩ := hk1
      have hE' := tick_step r u l' p h m k hr k0 k1
      rw [hE.out] at hE'
      have q0 : 0 ≤ r * k := Int.mul_nonneg (by omega) (by omega)
      have q1 : r * k ≤ 1000000 * 1000000 := Int.mul_le_mul r1 k2 (by omega) (by omega)
      have e2 : wrap64 (l' + wrap64 (r * k)) = l' + r * k := by rw [IntWalk.wrap64_in (r * k) (by omega), IntWalk.wrap64_in _ (by omega)]
      have Hk := Lib.hid hk
      by_cases hb : 1000000 < m
      · have hk' : k = 1000000 := by rw [hk, if_pos hb]
        subst hk'
        clear hk e2
        by_cases hv : u < l' + r * 1000000
        · rw [show min u (l' + r * 1000000) = u from by omega] at hE'
          have HE := Lib.hid hE'
          clear hE' hE
          go_wp2
          go_quiet (fail)
          go_wp2
          go_region
          go_wp2
          go_quiet (fail)
          go_wp2
          go_roundw
          case rel => exact ⟨_, u, rfl, by omega, by omega, by omega, by omega, (((hW.drewN _).set 2 _).drewN _).set 2 _, (((hF.drewN _).setCell (by simp) _).drewN _).setCell (by simp) _, HE⟩
          case measure => simp [intOf]; omega
        · rw [show min u (l' + r * 1000000) = l' + r * 1000000 from by omega] at hE'
          have HE := Lib.hid hE'
          clear hE' hE
          go_wp2
          go_quiet (fail)
          go_wp2
          go_region
          go_wp2
          go_quiet (fail)
          go_wp2
          go_roundw
          case rel => exact ⟨_, l' + r * 1000000, rfl, by omega, by omega, by omega, by omega, ((hW.drewN _).set 2 _).drewN _, ((hF.drewN _).setCell (by simp) _).drewN _, HE⟩
          case measure => simp [intOf]; omega
      · have hk' : k = m := by rw [hk, if_neg hb]
        subst hk'
        clear hk
        rw [Int.sub_self] at hE'
        by_cases hv : u < l' + r * k
        · rw [show min u (l' + r * k) = u from by omega] at hE'
          have HE := Lib.hid hE'
          clear hE' hE
          go_wp2
          go_quiet (fail)
          go_wp2
          go_region
          go_wp2
          go_quiet (fail)
          go_wp2
          go_roundw
          case rel => exact ⟨_, u, rfl, by omega, by omega, by omega, by omega, (((hW.drewN _).set 2 _).drewN _).set 2 _, (((hF.drewN _).setCell (by simp) _).drewN _).setCell (by simp) _, HE⟩
          case measure => simp [intOf]; omega
        · rw [show min u (l' + r * k) = l' + r * k from by omega] at hE'
          have HE := Lib.hid hE'
          clear hE' hE
          go_wp2
          go_quiet (fail)
          go_wp2
          go_region
          go_wp2
          go_quiet (fail)
          go_wp2
          go_roundw
          case rel => exact ⟨_, l' + r * k, rfl, by omega, by omega, by omega, by omega, ((hW.drewN _).set 2 _).drewN _, ((hF.drewN _).setCell (by simp) _).drewN _, HE⟩
          case measure => simp [intOf]; omega
    · have hE' := tick_stop r u l' p h m hc r0 l3
      rw [hE.out] at hE'
      have HE := Lib.hid hE'
      clear hE' hE
      by_cases hm : 0 < m
      · by_cases hr : 0 < r
        · have hd : decide (l' < u) = false := by simp; omega
          clear hc
          go_wp2
          go_quiet (fail)
          go_wp2
          go_end0
          rw [HE.out]
          exact ⟨rfl, hW.drewN _, hF.drewN _⟩
        · have hd : decide (0 < r) = false := by simp; omega
          clear hc
          go_wp2
          go_quiet (fail)
          go_wp2
          go_end0
          rw [HE.out]
          exact ⟨rfl, hW.drewN _, hF.drewN _⟩
      · have hd : decide (0 < m) = false := by simp; omega
        clear hc
        go_wp2
        go_quiet (fail)
        go_wp2
        go_end0
        rw [HE.out]
        exact ⟨rfl, hW.drewN _, hF.drewN _⟩
end Go.Proofs.Ytafghlggncjmnaa
